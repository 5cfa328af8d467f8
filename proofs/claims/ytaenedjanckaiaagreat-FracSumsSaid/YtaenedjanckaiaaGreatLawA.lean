/- The statements' helpers of layer 3: long, cmp, same; frames of boxes. -/
import Derived.Test.YtaenedjanckaiaaGreatKnown
namespace Go.Proofs.YtaenedjanckaiaaGreat
set_option linter.unnecessarySimpa false
set_option linter.unusedVariables false
set_option linter.unusedSimpArgs false
open Go.RowKit

/-- Blocks that hold these cells. -/
def Frames (w : World) (l : List (Nat × Array Value × TypeId)) : Prop := ∀ x ∈ l, BoxAt w x.1 x.2.1 x.2.2
theorem Frames.nil (w : World) : Frames w [] := fun _ h => nomatch h
theorem Frames.on {w w' : World} {l : List (Nat × Array Value × TypeId)} (h : Frames w l) (k : Below w.heap.size w w') : Frames w' l := fun x hx => (h x hx).on k
theorem Frames.push {w : World} {l : List (Nat × Array Value × TypeId)} (h : Frames w l) (n : Nat) (cs : Array Value) (t : TypeId) (hn : n = w.heap.size) : Frames (w.alloc (.cells cs t)) ((n, cs, t) :: l) := by
  intro x hx
  rcases List.mem_cons.1 hx with rfl | hx
  · exact BoxAt.new_at cs t hn
  · exact (h x hx).on (below_new w _)
theorem Frames.get {w : World} {l : List (Nat × Array Value × TypeId)} (h : Frames w l) (i : Nat) {x : Nat × Array Value × TypeId} (hx : l[i]? = some x) : BoxAt w x.1 x.2.1 x.2.2 := h x (List.mem_of_getElem? hx)

def LongPost (most n : Nat) (ss ts : Nat → ByteArray) (w : World) (e : Ending) (w' : World) : Prop := ∃ r, e = .returned (.bool r) ∧ (r = true ↔ ∃ j, j < n ∧ (most < (ss j).size ∨ most < (ts j).size)) ∧ w = w'
set_option maxRecDepth 100000 in
theorem long_any {w : World} {a n cap : Nat} (most : Nat) (ss ts : Nat → ByteArray) (hm : most ≤ 1000000) (hn : n ≤ 1000000) (h1 : ∀ j, j < n → w.cell? ⟨a, j * 4 + 1, none⟩ = some (.string (ss j))) (h2 : ∀ j, j < n → w.cell? ⟨a, j * 4 + 3, none⟩ = some (.string (ts j))) :
    Calls Tryz.prog 7 #[.int .i64 (most : Int), .slice (some ⟨a, 0, none⟩) n cap] w (LongPost most n ss ts w) := by
  have H1 := Lib.hid h1
  have H2 := Lib.hid h2
  clear h1 h2
  go_enter Tryz.func7, Tryz.ntmps7
  go_wp2
  go_loop [5] (fun i => ∃ k : Nat, k ≤ n ∧ i = .int .i64 (k : Int) ∧ Hid (∀ j, j < k → (ss j).size ≤ most ∧ (ts j).size ≤ most)) (fun i => n - (intOf i).toNat)
  case atStart => exact ⟨0, Nat.zero_le _, rfl, fun j hj => absurd hj (Nat.not_lt_zero _)⟩
  case round =>
    obtain ⟨k, hk, rfl, HK⟩ := hrel
    by_cases hlt : k < n
    · have hc1 := H1.out k hlt
      have hc2 := H2.out k hlt
      obtain ⟨s, hs⟩ : ∃ s, s = ss k := ⟨_, rfl⟩
      obtain ⟨t, ht⟩ : ∃ t, t = ts k := ⟨_, rfl⟩
      rw [← hs] at hc1
      rw [← ht] at hc2
      have HS := Lib.hid hs
      have HT := Lib.hid ht
      clear hs ht
      by_cases c1 : most < s.size
      · have c1i : (most : Int) < (s.size : Int) := by omega
        go_wp2
        go_ret
        exact ⟨true, rfl, ⟨fun _ => ⟨k, hlt, .inl (by rw [← HS.out]; exact c1)⟩, fun _ => rfl⟩, rfl⟩
      · have c1i : (s.size : Int) ≤ (most : Int) := by omega
        by_cases c2 : most < t.size
        · have c2i : (most : Int) < (t.size : Int) := by omega
          go_wp2
          go_ret
          exact ⟨true, rfl, ⟨fun _ => ⟨k, hlt, .inr (by rw [← HT.out]; exact c2)⟩, fun _ => rfl⟩, rfl⟩
        · have c2i : (t.size : Int) ≤ (most : Int) := by omega
          have HK2 : Hid (∀ j, j < k + 1 → (ss j).size ≤ most ∧ (ts j).size ≤ most) := by
            intro j hj
            rcases Nat.lt_or_ge j k with h | h
            · exact HK.out j h
            · obtain rfl : j = k := by omega
              rw [← HS.out, ← HT.out]
              exact ⟨by omega, by omega⟩
          go_wp2
          go_round
          case rel => exact ⟨k + 1, by omega, by go_num, HK2⟩
          case measure => simp [intOf]; omega
    · obtain rfl : k = n := by omega
      go_wp2
      go_ret
      refine ⟨false, rfl, ⟨fun h => Bool.noConfusion h, fun h => ?_⟩, rfl⟩
      obtain ⟨j, hj, h⟩ := h
      have := HK.out j hj
      omega

theorem rat_num_neg {x : Rat} (h : x < 0) : x.num < 0 := by
  rw [Rat.lt_iff] at h
  simpa using h
theorem rat_num_pos {x : Rat} (h : 0 < x) : 0 < x.num := by
  rw [Rat.lt_iff] at h
  simpa using h
theorem cmpQ_sign (x u : Rat) : cmpQ (x + u) u = x.num.sign := by
  unfold cmpQ
  by_cases h : x < 0
  · rw [if_pos (by grind), Int.sign_eq_neg_one_of_neg (rat_num_neg h)]
  · by_cases h2 : 0 < x
    · rw [if_neg (by grind), if_pos (by grind), Int.sign_eq_one_of_pos (rat_num_pos h2)]
    · obtain rfl : x = 0 := by grind
      rw [if_neg (by grind), if_neg (by grind)]; rfl
theorem cmpQ_shift (x z u : Rat) : cmpQ (u + x) (u + z) = cmpQ x z := by
  unfold cmpQ
  by_cases h1 : x < z
  · rw [if_pos h1, if_pos (by grind)]
  · rw [if_neg h1, if_neg (by grind)]
    by_cases h2 : z < x
    · rw [if_pos h2, if_pos (by grind)]
    · rw [if_neg h2, if_neg (by grind)]
theorem cmpQ_neg (x y : Rat) : cmpQ x y = -cmpQ y x := by
  unfold cmpQ
  by_cases h1 : x < y
  · rw [if_pos h1, if_neg (by grind), if_pos h1]
  · rw [if_neg h1]
    by_cases h2 : y < x
    · rw [if_pos h2, if_pos h2]; rfl
    · rw [if_neg h2, if_neg h2, if_neg h1]; rfl
theorem cmpQ_range (x y : Rat) : -1 ≤ cmpQ x y ∧ cmpQ x y ≤ 1 := by
  unfold cmpQ
  split
  · decide
  · split <;> decide
end Go.Proofs.YtaenedjanckaiaaGreat
