/- What package frac answers, for the statements of layer 3. -/
import Derived.Test.YtaenedjanckaiaaGreatLawD
import Derived.Test.YtaenedjanckaiaaGreatRefN
namespace Go.Proofs.YtaenedjanckaiaaGreat
set_option linter.unnecessarySimpa false
set_option linter.unusedVariables false
set_option linter.unusedSimpArgs false
open Go.RowKit

theorem ansV_cells (x : Rat) : ∃ p s q t, (Value.agg #[.bool p, .string s, .bool q, .string t]) = ansV x := by
  unfold ansV
  split
  · exact ⟨_, _, _, _, rfl⟩
  · exact ⟨_, _, _, _, rfl⟩
theorem fit_of_cells {b c : Bool} {s t : ByteArray} (h : IsFrac (.agg #[.bool b, .string s, .bool c, .string t])) : ∃ x, Fit x ∧ (Value.agg #[.bool b, .string s, .bool c, .string t]) = fracV x := h
def bad : Value := .agg #[.bool false, .string ⟨#[]⟩, .bool false, .string ⟨#[]⟩]
theorem bin_in {w0 : World} {fn : Rat → Rat → Rat} {va vb : Value} {x y : Rat} {f : Nat} {args : Array Value} (H : Calls Tryz.prog f args w0 (BinPost fn va vb w0)) (ha : va = fracV x) (hb : vb = fracV y) (hx : Fit x) (hy : Fit y) :
    Calls Tryz.prog f args w0 fun e w' => e = .returned (.tuple #[ansV (fn x y), .int .i64 (ansK (fn x y))]) ∧ Below w0.heap.size w0 w' := by
  refine H.mono ?_
  rintro e w' ⟨v, k, rfl, h, hbl⟩
  obtain ⟨rfl, rfl⟩ := ans_eq (bin_fit h ha hb hx hy)
  exact ⟨rfl, hbl⟩
theorem bin_out {w0 : World} {fn : Rat → Rat → Rat} {va vb : Value} {f : Nat} {args : Array Value} (H : Calls Tryz.prog f args w0 (BinPost fn va vb w0)) (h : ¬ (IsFrac va ∧ IsFrac vb)) :
    Calls Tryz.prog f args w0 fun e w' => e = .returned (.tuple #[.agg #[.bool false, .string ⟨#[]⟩, .bool false, .string ⟨#[]⟩], .int .i64 2]) ∧ Below w0.heap.size w0 w' := by
  refine H.mono ?_
  rintro e w' ⟨v, k, rfl, h2, hbl⟩
  rcases h2 with ⟨x, y, hx, hy, ha, hb, _⟩ | ⟨_, rfl, rfl⟩
  · exact absurd ⟨⟨x, hx, ha⟩, ⟨y, hy, hb⟩⟩ h
  · exact ⟨rfl, hbl⟩
theorem div_in {w0 : World} {va vb : Value} {x y : Rat} {f : Nat} {args : Array Value} (H : Calls Tryz.prog f args w0 (DivPostF va vb w0)) (ha : va = fracV x) (hb : vb = fracV y) (hx : Fit x) (hy : Fit y) (h0 : y ≠ 0) :
    Calls Tryz.prog f args w0 fun e w' => e = .returned (.tuple #[ansV (x / y), .int .i64 (ansK (x / y))]) ∧ Below w0.heap.size w0 w' := by
  refine H.mono ?_
  rintro e w' ⟨v, k, rfl, h, hbl⟩
  have h2 : Ans (x / y) v k := by
    rcases h with ⟨_, h1, _⟩ | ⟨_, h1⟩ | ⟨h1, _⟩
    · rw [hb] at h1; exact absurd (fracV_inj h1) h0
    · exact bin_fit h1 ha hb hx hy
    · rcases h1 with h1 | h1
      · exact absurd ⟨x, hx, ha⟩ h1
      · exact absurd ⟨y, hy, hb⟩ h1
  obtain ⟨rfl, rfl⟩ := ans_eq h2
  exact ⟨rfl, hbl⟩
theorem div_zero {w0 : World} {va vb : Value} {f : Nat} {args : Array Value} (H : Calls Tryz.prog f args w0 (DivPostF va vb w0)) (ha : IsFrac va) (hb : vb = fracV 0) :
    Calls Tryz.prog f args w0 fun e w' => e = .returned (.tuple #[.agg #[.bool false, .string ⟨#[]⟩, .bool false, .string ⟨#[]⟩], .int .i64 5]) ∧ Below w0.heap.size w0 w' := by
  refine H.mono ?_
  rintro e w' ⟨v, k, rfl, h, hbl⟩
  rcases h with ⟨_, h1, rfl, rfl⟩ | ⟨h0, h1⟩ | ⟨h1, _⟩
  · exact ⟨rfl, hbl⟩
  · exact absurd hb h0
  · rcases h1 with h1 | h1
    · exact absurd ha h1
    · exact absurd ⟨0, fit_zero, hb⟩ h1
theorem div_out {w0 : World} {va vb : Value} {f : Nat} {args : Array Value} (H : Calls Tryz.prog f args w0 (DivPostF va vb w0)) (h : ¬ (IsFrac va ∧ IsFrac vb)) :
    Calls Tryz.prog f args w0 fun e w' => e = .returned (.tuple #[.agg #[.bool false, .string ⟨#[]⟩, .bool false, .string ⟨#[]⟩], .int .i64 2]) ∧ Below w0.heap.size w0 w' := by
  refine H.mono ?_
  rintro e w' ⟨v, k, rfl, h2, hbl⟩
  rcases h2 with ⟨h1, h2, _⟩ | ⟨_, h1⟩ | ⟨_, rfl, rfl⟩
  · exact absurd ⟨h1, ⟨0, fit_zero, h2⟩⟩ h
  · rcases h1 with ⟨x, y, hx, hy, ha, hb, _⟩ | ⟨_, rfl, rfl⟩
    · exact absurd ⟨⟨x, hx, ha⟩, ⟨y, hy, hb⟩⟩ h
    · exact ⟨rfl, hbl⟩
  · exact ⟨rfl, hbl⟩
theorem cmp_in {w0 : World} {va vb : Value} {x y : Rat} {f : Nat} {args : Array Value} (H : Calls Tryz.prog f args w0 (CmpPost va vb w0)) (ha : va = fracV x) (hb : vb = fracV y) (hx : Fit x) (hy : Fit y) :
    Calls Tryz.prog f args w0 fun e w' => e = .returned (.tuple #[.int .i64 (cmpQ x y), .int .i64 0]) ∧ Below w0.heap.size w0 w' := by
  refine H.mono ?_
  rintro e w' ⟨n, k, rfl, h, hbl⟩
  rcases h with ⟨x', y', _, _, h1, h2, rfl, rfl⟩ | ⟨h1, _⟩
  · rw [ha] at h1; rw [hb] at h2
    rw [fracV_inj h1, fracV_inj h2]
    exact ⟨rfl, hbl⟩
  · rcases h1 with h1 | h1
    · exact absurd ⟨x, hx, ha⟩ h1
    · exact absurd ⟨y, hy, hb⟩ h1
theorem cmp_out {w0 : World} {va vb : Value} {f : Nat} {args : Array Value} (H : Calls Tryz.prog f args w0 (CmpPost va vb w0)) (h : ¬ (IsFrac va ∧ IsFrac vb)) :
    Calls Tryz.prog f args w0 fun e w' => e = .returned (.tuple #[.int .i64 0, .int .i64 2]) ∧ Below w0.heap.size w0 w' := by
  refine H.mono ?_
  rintro e w' ⟨n, k, rfl, h2, hbl⟩
  rcases h2 with ⟨x, y, hx, hy, ha, hb, _⟩ | ⟨_, rfl, rfl⟩
  · exact absurd ⟨⟨x, hx, ha⟩, ⟨y, hy, hb⟩⟩ h
  · exact ⟨rfl, hbl⟩
theorem may_w {w0 : World} (b c : Bool) (s t : ByteArray) (hs : s.size ≤ maxLen) (ht : t.size ≤ maxLen) (r : Bool) (hr : r = true ↔ IsFrac (.agg #[.bool b, .string s, .bool c, .string t])) :
    Calls Tryz.prog 15 #[.agg #[.bool b, .string s, .bool c, .string t]] w0 fun e w' => e = .returned (.bool r) ∧ Below w0.heap.size w0 w' := by
  refine (May_any b c s t hs ht).mono ?_
  rintro e w' ⟨r', rfl, hr', hb⟩
  refine ⟨?_, hb⟩
  rw [Bool.eq_iff_iff.2 (hr'.trans hr.symm)]
theorem told_w {w : World} {b c b2 c2 : Bool} {s t s2 t2 : ByteArray} {q : Rat} {k : Int} (hv : (Value.agg #[.bool b, .string s, .bool c, .string t]) = ansV q) (hk : k = ansK q) (hq : (Value.agg #[.bool b2, .string s2, .bool c2, .string t2]) = fracV q) :
    Calls Tryz.prog 16 #[.agg #[.bool b, .string s, .bool c, .string t], .int .i64 k, .agg #[.bool b2, .string s2, .bool c2, .string t2], .bool true] w fun e w' => e = .returned (.bool true) ∧ Below w.heap.size w w' := by
  rw [hk]
  exact told_law b c b2 c2 s t s2 t2 q hv hq
theorem long2_w {w : World} {a cap : Nat} {b c b2 c2 : Bool} {s t s2 t2 : ByteArray} {T : TypeId} (most : Nat) (hm : most ≤ 1000000) (h : BoxAt w a #[.bool b, .string s, .bool c, .string t, .bool b2, .string s2, .bool c2, .string t2] T) (r : Bool) (hr : r = true ↔ ¬ ((s.size ≤ most ∧ t.size ≤ most) ∧ (s2.size ≤ most ∧ t2.size ≤ most))) :
    Calls Tryz.prog 7 #[.int .i64 (most : Int), .slice (some ⟨a, 0, none⟩) 2 cap] w fun e w' => e = .returned (.bool r) ∧ Below w.heap.size w w' := by
  refine (long_any (n := 2) (cap := cap) most (fun j => if j = 0 then s else s2) (fun j => if j = 0 then t else t2) hm (by decide) ?_ ?_).mono ?_
  · intro j hj
    rcases (by omega : j = 0 ∨ j = 1) with rfl | rfl
    · exact h.cell 1 _ rfl
    · exact h.cell 5 _ rfl
  · intro j hj
    rcases (by omega : j = 0 ∨ j = 1) with rfl | rfl
    · exact h.cell 3 _ rfl
    · exact h.cell 7 _ rfl
  · rintro e w' ⟨r', rfl, hr', rfl⟩
    refine ⟨?_, Below.refl _ _⟩
    rw [Bool.eq_iff_iff.2 (hr'.trans (Iff.trans ?_ hr.symm))]
    constructor
    · rintro ⟨j, hj, h1⟩ ⟨⟨h2, h3⟩, h4, h5⟩
      rcases (by omega : j = 0 ∨ j = 1) with rfl | rfl
      · simp at h1; omega
      · simp at h1; omega
    · intro hn
      by_cases k1 : most < s.size ∨ most < t.size
      · exact ⟨0, by decide, k1⟩
      · exact ⟨1, by decide, by simp; omega⟩
theorem long1_w {w : World} {a cap : Nat} {b c : Bool} {s t : ByteArray} {T : TypeId} (most : Nat) (hm : most ≤ 1000000) (h : BoxAt w a #[.bool b, .string s, .bool c, .string t] T) (r : Bool) (hr : r = true ↔ ¬ (s.size ≤ most ∧ t.size ≤ most)) :
    Calls Tryz.prog 7 #[.int .i64 (most : Int), .slice (some ⟨a, 0, none⟩) 1 cap] w fun e w' => e = .returned (.bool r) ∧ Below w.heap.size w w' := by
  refine (long_any (n := 1) (cap := cap) most (fun _ => s) (fun _ => t) hm (by decide) ?_ ?_).mono ?_
  · intro j hj
    obtain rfl : j = 0 := by omega
    exact h.cell 1 _ rfl
  · intro j hj
    obtain rfl : j = 0 := by omega
    exact h.cell 3 _ rfl
  · rintro e w' ⟨r', rfl, hr', rfl⟩
    refine ⟨?_, Below.refl _ _⟩
    rw [Bool.eq_iff_iff.2 (hr'.trans (Iff.trans ?_ hr.symm))]
    constructor
    · rintro ⟨j, hj, h1⟩ ⟨h2, h3⟩
      have h1 : most < s.size ∨ most < t.size := h1
      omega
    · intro hn
      exact ⟨0, by decide, show most < s.size ∨ most < t.size by omega⟩
end Go.Proofs.YtaenedjanckaiaaGreat
