/- The ghost's discipline for new numbers: which blocks are whose, and which are yet to be written. -/
import Derived.Test.YtaenedjanckaiaaGreatIntC
import Derived.Test.YtaenedjanckaiaaGreatRegG
namespace Go.Proofs.YtaenedjanckaiaaGreat
set_option linter.unnecessarySimpa false
set_option linter.unusedVariables false
set_option linter.unusedSimpArgs false
open Go.RowKit

/-- The block that a pointer lies in. -/
def blk (v : Value) : Option Nat := match v with
  | .pointer (some a) => some a.block
  | _ => none

/-- Since w0 only memory has been made; the owners' blocks are apart. -/
structure GC (base : Nat) (w0 : World) (ow : List Nat) (γ : Gh) (w : World) : Prop where
  below : Below base w0 w
  size : base ≤ w.heap.size
  lt : ∀ i ∈ ow, ∀ v g, γ i = some v → blk v = some g → g < w.heap.size
  apart : ∀ i ∈ ow, ∀ j ∈ ow, i ≠ j → ∀ v u g, γ i = some v → γ j = some u → blk v = some g → blk u = some g → g < base

/-- What stays: each number but those that are yet to be written; each place. -/
structure GE (base : Nat) (wr : List (Nat × Nat)) (γ : Gh) (w w' : World) : Prop where
  int : ∀ g o n, IntAt w g o n → (∃ p ∈ wr, ∃ v, γ p.1 = some v ∧ blk v = some g ∧ γ p.2 = none ∧ base ≤ g) ∨ IntAt w' g o n
  slot : ∀ g o n, Slot w g o n → Slot w' g o n

theorem GC.start {base : Nat} {w0 : World} (ow : List Nat) (hb : base ≤ w0.heap.size) : GC base w0 ow gh0 w0.drew :=
  ⟨(Below.refl _ _).drew, hb, (fun _ _ _ _ h => nomatch h), (fun _ _ _ _ _ _ _ _ h => nomatch h)⟩
theorem upd_some {γ : Gh} {k i : Nat} {x v : Value} (h : γ i = some v) (hk : γ k = none) : γ.upd k x i = some v := by
  rw [Gh.upd_ne γ x (fun e => by rw [e, hk] at h; cases h)]
  exact h
/-- An operation that gives no owner's block. -/
theorem GC.step {base : Nat} {w0 w w' : World} {ow : List Nat} {γ : Gh} (h : GC base w0 ow γ w) (k : Nat) (x : Value) (hk : ow.contains k = false) (hb : Below base w w') : GC base w0 ow (γ.upd k x) w' := by
  have hne : ∀ i ∈ ow, i ≠ k := fun i hi e => by subst e; rw [List.contains_iff_mem.2 hi] at hk; cases hk
  refine ⟨h.below.trans hb, Nat.le_trans h.size hb.size, fun i hi v g h1 h2 => ?_, fun i hi j hj hij v u g h1 h2 => ?_⟩
  · rw [Gh.upd_ne γ x (hne i hi)] at h1
    exact Nat.lt_of_lt_of_le (h.lt i hi v g h1 h2) hb.size
  · rw [Gh.upd_ne γ x (hne i hi)] at h1
    rw [Gh.upd_ne γ x (hne j hj)] at h2
    exact h.apart i hi j hj hij v u g h1 h2
/-- An operation that gives a new block, or one from before. -/
theorem GC.own {base : Nat} {w0 w w' : World} {ow : List Nat} {γ : Gh} (h : GC base w0 ow γ w) (k : Nat) (g o : Nat) (hb : Below w.heap.size w w') (hg : g < w'.heap.size) (hn : g < base ∨ w.heap.size ≤ g) :
    GC base w0 ow (γ.upd k (.pointer (some ⟨g, o, none⟩))) w' := by
  refine ⟨h.below.trans (hb.mono h.size), Nat.le_trans h.size hb.size, fun i hi v j h1 h2 => ?_, fun i hi j hj hij v u c h1 h2 h3 h4 => ?_⟩
  · by_cases e : i = k
    · subst e
      rw [Gh.upd_self] at h1
      cases h1
      cases h2
      exact hg
    · rw [Gh.upd_ne γ _ e] at h1
      exact Nat.lt_of_lt_of_le (h.lt i hi v j h1 h2) hb.size
  · by_cases e : i = k
    · subst e
      rw [Gh.upd_self] at h1
      rw [Gh.upd_ne γ _ (Ne.symm hij)] at h2
      cases h1
      cases h3
      have := h.lt j hj u _ h2 h4
      simp only at this ⊢
      omega
    · rw [Gh.upd_ne γ _ e] at h1
      by_cases e2 : j = k
      · subst e2
        rw [Gh.upd_self] at h2
        cases h2
        cases h4
        have := h.lt i hi v _ h1 h3
        simp only at this ⊢
        omega
      · rw [Gh.upd_ne γ _ e2] at h2
        exact h.apart i hi j hj hij v u c h1 h2 h3 h4
theorem GE.below {base : Nat} {w w' : World} (wr : List (Nat × Nat)) (γ : Gh) (h : Below w.heap.size w w') : GE base wr γ w w' :=
  ⟨fun _ _ _ k => .inr (k.on h), fun _ _ _ k => k.on h⟩
theorem GE.refl (base : Nat) (w : World) (wr : List (Nat × Nat)) (γ : Gh) : GE base wr γ w w := GE.below wr γ (Below.refl _ _)
/-- The operation that writes the block of another one's. -/
theorem GE.write {base : Nat} {w w' : World} {wr : List (Nat × Nat)} {γ : Gh} {g n : Nat} (a k : Nat) (hp : wr.contains (a, k) = true) (hs : Slot w g 0 n) (ht : Touch w w' g 0 n) (ha : γ a = some (.pointer (some ⟨g, 0, none⟩))) (hk : γ k = none) (hb : base ≤ g) : GE base wr γ w w' := by
  refine ⟨fun c o x hx => ?_, fun _ _ _ k => k.touch ht⟩
  by_cases e : c = g
  · subst e
    exact .inl ⟨(a, k), List.contains_iff_mem.1 hp, _, ha, rfl, hk, hb⟩
  · exact .inr (hx.touch hs ht (.inl e))

/-- A new place. -/
def VA (base : Nat) (w : World) (v : Value) : Prop := ∃ g, v = .pointer (some ⟨g, 0, none⟩) ∧ base ≤ g ∧ Slot w g 0 2
/-- A number of an owner's block. -/
def VD (n : Int) (w : World) (v : Value) : Prop := ∃ g i, v = .pointer (some ⟨g, i, none⟩) ∧ IntAt w g i n
/-- The number that has been written into the block of another one's. -/
def VM (base a : Nat) (n : Int) (γ : Gh) (w : World) (v : Value) : Prop := ∃ g, v = .pointer (some ⟨g, 0, none⟩) ∧ γ a = some (.pointer (some ⟨g, 0, none⟩)) ∧ base ≤ g ∧ IntAt w g 0 n

theorem VA.stable {base : Nat} {wr : List (Nat × Nat)} {γ : Gh} {w w' : World} {v : Value} (h : VA base w v) (hE : GE base wr γ w w') : VA base w' v := by
  obtain ⟨g, h1, h2, h3⟩ := h
  exact ⟨g, h1, h2, hE.slot _ _ _ h3⟩
theorem VD.stable {base : Nat} {w0 : World} {ow : List Nat} {wr : List (Nat × Nat)} {γ : Gh} {w w' : World} {v : Value} {n : Int} (i : Nat) (h : VD n w v) (hC : GC base w0 ow γ w) (hE : GE base wr γ w w') (hi : γ i = some v) (hb : (ow.contains i && wr.all fun p => ow.contains p.1 && p.1 != i) = true) : VD n w' v := by
  obtain ⟨g, o, rfl, h2⟩ := h
  rw [Bool.and_eq_true] at hb
  rcases hE.int _ _ _ h2 with ⟨p, hp, u, k1, k2, _, k4⟩ | k
  · have h3 := List.all_eq_true.1 hb.2 p hp
    rw [Bool.and_eq_true, bne_iff_ne] at h3
    have := hC.apart i (List.contains_iff_mem.1 hb.1) p.1 (List.contains_iff_mem.1 h3.1) (Ne.symm h3.2) _ _ g hi k1 rfl k2
    omega
  · exact ⟨g, o, rfl, k⟩
theorem VM.stable {base a : Nat} {w0 : World} {ow : List Nat} {wr : List (Nat × Nat)} {γ : Gh} {w w' : World} {v x : Value} {n : Int} (i k : Nat) (h : VM base a n γ w v) (hC : GC base w0 ow γ w) (hE : GE base wr γ w w') (hk : γ k = none) (hi : γ i = some v) (hb : (ow.contains a && wr.all fun p => ow.contains p.1 && (p.1 != a || p.2 == i)) = true) : VM base a n (γ.upd k x) w' v := by
  obtain ⟨g, rfl, h1, h2, h3⟩ := h
  rw [Bool.and_eq_true] at hb
  rcases hE.int _ _ _ h3 with ⟨p, hp, u, k1, k2, k3, k4⟩ | k5
  · have h4 := List.all_eq_true.1 hb.2 p hp
    rw [Bool.and_eq_true, Bool.or_eq_true, bne_iff_ne, beq_iff_eq] at h4
    by_cases e : p.1 = a
    · have : p.2 = i := by rcases h4.2 with h5 | h5; exact absurd e h5; exact h5
      rw [this, hi] at k3
      cases k3
    · have := hC.apart a (List.contains_iff_mem.1 hb.1) p.1 (List.contains_iff_mem.1 h4.1) (Ne.symm e) _ _ g h1 k1 rfl k2
      omega
  · exact ⟨g, rfl, upd_some h1 hk, h2, k5⟩
end Go.Proofs.YtaenedjanckaiaaGreat
