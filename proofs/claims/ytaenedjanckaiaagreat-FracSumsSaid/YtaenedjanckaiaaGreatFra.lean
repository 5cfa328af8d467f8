/- Worlds that hold given boxes; numbers as values. -/
import Derived.Test.YtaenedjanckaiaaGreatRefM
namespace Go.Proofs.YtaenedjanckaiaaGreat
set_option linter.unnecessarySimpa false
set_option linter.unusedVariables false
set_option linter.unusedSimpArgs false
open Go.RowKit

/-- What has been made since w0; the boxes, the last one first. -/
structure Fr (w0 w : World) (l : List (Nat × Array Value × TypeId)) : Prop where
  below : Below w0.heap.size w0 w
  boxes : Frames w l
  dist : l.Pairwise (fun x y => x.1 ≠ y.1)
  low : ∀ x ∈ l, w0.heap.size ≤ x.1
theorem Fr.nil (w : World) : Fr w w [] := ⟨Below.refl _ _, Frames.nil w, List.Pairwise.nil, fun _ h => nomatch h⟩
theorem Fr.lt {w0 w : World} {l : List (Nat × Array Value × TypeId)} (h : Fr w0 w l) : ∀ x ∈ l, x.1 < w.heap.size := fun x hx => (h.boxes x hx).lt
theorem Fr.push {w0 w : World} {l : List (Nat × Array Value × TypeId)} (h : Fr w0 w l) (n : Nat) (cs : Array Value) (t : TypeId) (hn : n = w.heap.size) : Fr w0 (w.alloc (.cells cs t)) ((n, cs, t) :: l) := by
  refine ⟨below_alloc_ h.below _, h.boxes.push n cs t hn, List.Pairwise.cons (fun x hx => ?_) h.dist, fun x hx => ?_⟩
  · have := h.lt x hx
    show n ≠ x.1
    omega
  · rcases List.mem_cons.1 hx with rfl | hx
    · rw [hn]; exact h.below.size
    · exact h.low x hx
theorem Fr.on {w0 w w' : World} {l : List (Nat × Array Value × TypeId)} (h : Fr w0 w l) (k : Below w.heap.size w w') : Fr w0 w' l := ⟨h.below.trans (k.mono h.below.size), h.boxes.on k, h.dist, h.low⟩
theorem Fr.drew {w0 w : World} {l : List (Nat × Array Value × TypeId)} (h : Fr w0 w l) : Fr w0 w.drew l := h.on (Below.drew (Below.refl _ _))
theorem Fr.add {w0 w : World} {l : List (Nat × Array Value × TypeId)} (h : Fr w0 w l) {B : Nat} (hB : w0.heap.size ≤ B) (hl : ∀ x ∈ l, x.1 < B) {g : Nat} {cs : Array Value} {t : TypeId} (hg : B ≤ g) (hx : BoxAt w g cs t) : Fr w0 w ((g, cs, t) :: l) := by
  refine ⟨h.below, ?_, List.Pairwise.cons (fun x hx => ?_) h.dist, fun x hx => ?_⟩
  · intro x hx2
    rcases List.mem_cons.1 hx2 with rfl | hx2
    · exact hx
    · exact h.boxes x hx2
  · have := hl x hx
    show g ≠ x.1
    omega
  · rcases List.mem_cons.1 hx with rfl | hx
    · exact Nat.le_trans hB hg
    · exact h.low x hx
theorem Fr.get {w0 w : World} {l : List (Nat × Array Value × TypeId)} (h : Fr w0 w l) (i : Nat) {x : Nat × Array Value × TypeId} (hx : l[i]? = some x) : BoxAt w x.1 x.2.1 x.2.2 := h.boxes.get i hx
theorem dist_set {l : List (Nat × Array Value × TypeId)} (h : l.Pairwise (fun x y => x.1 ≠ y.1)) (i : Nat) (y : Nat × Array Value × TypeId) (hy : ∀ x, l[i]? = some x → y.1 = x.1) : (l.set i y).Pairwise (fun x y => x.1 ≠ y.1) := by
  rw [List.pairwise_iff_getElem] at *
  intro a b ha hb hab
  simp only [List.length_set] at ha hb
  have h1 := h a b ha hb hab
  rw [List.getElem_set, List.getElem_set]
  split
  · split
    · omega
    · rename_i e1 e2
      subst e1
      rw [hy _ (List.getElem?_eq_getElem ha)]
      exact h1
  · split
    · rename_i e1 e2
      subst e2
      rw [hy _ (List.getElem?_eq_getElem hb)]
      exact h1
    · exact h1
theorem Fr.put {w0 w : World} {l : List (Nat × Array Value × TypeId)} (h : Fr w0 w l) (i : Nat) {g : Nat} {cs : Array Value} {t : TypeId} (hx : l[i]? = some (g, cs, t)) (k : Nat) (v : Value) : Fr w0 (w.setCell ⟨g, k, none⟩ v) (l.set i (g, cs.setIfInBounds k v, t)) := by
  have hm := List.mem_of_getElem? hx
  have hl : i < l.length := by
    rcases Nat.lt_or_ge i l.length with a | a
    · exact a
    · rw [List.getElem?_eq_none a] at hx; cases hx
  refine ⟨h.below.setCell (h.low _ hm) _, ?_, dist_set h.dist i _ ?_, ?_⟩
  · intro x hx2
    obtain ⟨j, hj, e⟩ := List.mem_iff_getElem.1 hx2
    rw [List.getElem_set] at e
    split at e
    · rw [← e]
      exact (h.boxes _ hm).set k v
    · rename_i hne
      simp only [List.length_set] at hj
      have hjm : l[j] ∈ l := List.getElem_mem hj
      have hd : l[j].1 ≠ g := by
        have hi : l[i] = (g, cs, t) := by rw [List.getElem?_eq_getElem hl] at hx; exact Option.some.inj hx
        have hp := List.pairwise_iff_getElem.1 h.dist
        rcases Nat.lt_or_ge i j with a | a
        · have := hp i j hl hj a; rw [hi] at this; exact fun e => this e.symm
        · have := hp j i hj hl (by omega); rw [hi] at this; exact this
      rw [← e]
      exact (h.boxes _ hjm).other hd
  · intro x e
    rw [hx] at e
    obtain rfl := Option.some.inj e
    rfl
  · intro x hx2
    obtain ⟨j, hj, e⟩ := List.mem_iff_getElem.1 hx2
    rw [List.getElem_set] at e
    split at e
    · rw [← e]; have := h.low _ hm; exact this
    · rw [← e]; exact h.low _ (List.getElem_mem _)
theorem unwanted_of {ops : Array Oper} {t : Array Value} {j d : Nat} {b b' : Bool} {o o' : Oper} (hg : o'.guard = some (j, b)) (ho : ops[j]? = some o) (hd : o.dst = some d) (h : t.getD d undef = .bool b') (hb : b' ≠ b) : Region.wanted o' (yielded ops t) = false := by
  unfold Region.wanted
  rw [hg]
  simp [yielded_of ho hd h, hb]
/-- A world by what is known of it. -/
theorem wp_world {P : Program} {c : Code} {Q : Exit → Act → World → Prop} {a : Act} {W : World} (F : World → Prop) (h : F W) (k : ∀ w, F w → c.wp P Q a w) : c.wp P Q a W := k W h

theorem wholeV_cells (n : Int) : ∃ p s, (Value.agg #[.bool p, .string s]) = wholeV n := ⟨_, _, rfl⟩
theorem fracV_cells (x : Rat) : ∃ p s q t, (Value.agg #[.bool p, .string s, .bool q, .string t]) = fracV x := ⟨_, _, _, _, rfl⟩
theorem agg2 {a b c d : Value} (h : Value.agg #[a, b] = .agg #[c, d]) : a = c ∧ b = d := by
  injection h with h
  have h := congrArg Array.toList h
  simpa using h
theorem whole_cells {p : Bool} {s : ByteArray} {n : Int} (h : (Value.agg #[.bool p, .string s]) = wholeV n) : p = decide (n < 0) ∧ s = mag n.natAbs := by
  obtain ⟨h1, h2⟩ := agg2 h
  exact ⟨Value.bool.inj h1, Value.string.inj h2⟩
theorem frac_num {p q : Bool} {s t : ByteArray} {x : Rat} (h : (Value.agg #[.bool p, .string s, .bool q, .string t]) = fracV x) : (Value.agg #[.bool p, .string s]) = wholeV x.num := by
  obtain ⟨rfl, rfl, _, _⟩ := agg4 h
  rfl
theorem frac_den {p q : Bool} {s t : ByteArray} {x : Rat} (h : (Value.agg #[.bool p, .string s, .bool q, .string t]) = fracV x) : (Value.agg #[.bool q, .string t]) = wholeV (x.den : Int) := by
  obtain ⟨_, _, rfl, rfl⟩ := agg4 h
  have : decide ((x.den : Int) < 0) = false := decide_eq_false (by omega)
  unfold wholeV
  rw [this, Int.natAbs_natCast]
theorem frac_mk {p q : Bool} {s t : ByteArray} {x : Rat} (h : (Value.agg #[.bool p, .string s]) = wholeV x.num) (k : (Value.agg #[.bool q, .string t]) = wholeV (x.den : Int)) : (Value.agg #[.bool p, .string s, .bool q, .string t]) = fracV x := by
  obtain ⟨rfl, rfl⟩ := whole_cells h
  obtain ⟨rfl, rfl⟩ := whole_cells k
  have : decide ((x.den : Int) < 0) = false := decide_eq_false (by omega)
  unfold fracV
  rw [this, Int.natAbs_natCast]
theorem sz_of {p : Bool} {s : ByteArray} {n : Int} (h : (Value.agg #[.bool p, .string s]) = wholeV n) {k : Nat} (b : sz n ≤ k) : s.size ≤ k := by
  rw [(whole_cells h).2]; exact b
theorem formed_num {p : Bool} {s : ByteArray} (h : FormedB p s) : decide (numOf p s < 0) = p ∧ mag (numOf p s).natAbs = s := by
  have hp : Plain1 s := by
    rcases h with h1 | h1
    · exact .inl h1.1
    · exact .inr h1.2
  have h1 := mag_num hp
  have h2 : s.size ≠ 0 → num s ≠ 0 := by
    intro k e
    rw [e, mag_zero] at h1
    rw [← h1] at k
    exact k rfl
  have h3 : (numOf p s).natAbs = num s := by unfold numOf sg; cases p <;> simp
  refine ⟨?_, by rw [h3, h1]⟩
  rcases h with h4 | h4
  · have : num s = 0 := by have := num_lt s; rw [h4.1] at this; omega
    rw [h4.2]
    unfold numOf sg
    simp [this]
  · have := h2 h4.1
    unfold numOf sg
    cases p
    · simp
    · simp; omega
/-- By the document: formed, above 0, in lowest terms. -/
theorem isFrac_doc {b c : Bool} {s t : ByteArray} : IsFrac (.agg #[.bool b, .string s, .bool c, .string t]) ↔
    (s.size ≤ 1024 ∧ t.size ≤ 1024) ∧ FormedB b s ∧ FormedB c t ∧ 0 < numOf c t ∧ Nat.gcd (numOf b s).natAbs (numOf c t).natAbs = 1 := by
  constructor
  · intro h
    obtain ⟨h1, h2, h3, h4, h5, h6⟩ := isFrac_parts h
    refine ⟨⟨h3, h4⟩, h1.1, h2.1, h5, ?_⟩
    obtain ⟨q, hf, hv⟩ := h
    obtain ⟨rfl, rfl, rfl, rfl⟩ := agg4 hv
    have n2 := numOf_mag (q.den : Int)
    rw [show decide ((q.den : Int) < 0) = false by simp, Int.natAbs_natCast] at n2
    rw [numOf_mag, n2, Int.natAbs_natCast]
    exact q.reduced
  · rintro ⟨⟨h1, h2⟩, h3, h4, h5, h6⟩
    obtain ⟨e1, e2⟩ := formed_num h3
    obtain ⟨e3, e4⟩ := formed_num h4
    refine isFrac_of h1 h2 (q := Rat.divInt (numOf b s) (numOf c t)) ?_
    obtain ⟨_, _, _, d4, d5⟩ := divInt_parts (numOf b s) (numOf c t) (by omega) 1 (by rw [if_neg (by omega), h6]; rfl)
    rw [Int.ediv_one] at d4 d5
    rw [fracV, d4, e1, e2]
    have hc : c = false := by rw [← e3]; exact decide_eq_false (by omega)
    have hd : (Rat.divInt (numOf b s) (numOf c t)).den = (numOf c t).natAbs := by omega
    rw [hd, e4, hc]
theorem rtimes_w {w0 : World} {p q : Bool} {s t : ByteArray} {n m : Int} (h : (Value.agg #[.bool p, .string s]) = wholeV n) (k : (Value.agg #[.bool q, .string t]) = wholeV m) (h1 : sz n ≤ 100000) (h2 : sz m ≤ 100000) :
    Calls Tryz.prog 60 #[.agg #[.bool p, .string s], .agg #[.bool q, .string t]] w0 fun e w' => e = .returned (wholeV (n * m)) ∧ Below w0.heap.size w0 w' := by
  refine (rtimes_any p q s t n m (whole_cells h).1 (whole_cells k).1 (whole_cells h).2 (whole_cells k).2 (sz_of h h1) (sz_of k h2)).mono ?_
  rintro e w' ⟨a, u, rfl, ha, hu, hb⟩
  exact ⟨by rw [ha.out, hu.out]; rfl, hb⟩
theorem rplus_w {w0 : World} {p q : Bool} {s t : ByteArray} {n m : Int} (h : (Value.agg #[.bool p, .string s]) = wholeV n) (k : (Value.agg #[.bool q, .string t]) = wholeV m) (h1 : sz n ≤ 100000) (h2 : sz m ≤ 100000) :
    Calls Tryz.prog 62 #[.agg #[.bool p, .string s], .agg #[.bool q, .string t]] w0 fun e w' => e = .returned (wholeV (n + m)) ∧ Below w0.heap.size w0 w' := by
  refine (rplus_any p q s t n m (whole_cells h).1 (whole_cells k).1 (whole_cells h).2 (whole_cells k).2 (sz_of h h1) (sz_of k h2)).mono ?_
  rintro e w' ⟨a, u, rfl, ha, hu, hb⟩
  exact ⟨by rw [ha.out, hu.out]; rfl, hb⟩
theorem rcmp_w {w0 : World} {p q : Bool} {s t : ByteArray} {n m : Int} (h : (Value.agg #[.bool p, .string s]) = wholeV n) (k : (Value.agg #[.bool q, .string t]) = wholeV m) (h1 : sz n ≤ 100000) (h2 : sz m ≤ 100000) :
    Calls Tryz.prog 63 #[.agg #[.bool p, .string s], .agg #[.bool q, .string t]] w0 fun e w' => e = .returned (.int .i64 (cmpI n m)) ∧ Below w0.heap.size w0 w' :=
  rcmp_any p q s t n m (whole_cells h).1 (whole_cells k).1 (whole_cells h).2 (whole_cells k).2 (sz_of h h1) (sz_of k h2)
theorem rsign_w {w : World} {p : Bool} {s : ByteArray} {n : Int} (h : (Value.agg #[.bool p, .string s]) = wholeV n) :
    Calls Tryz.prog 64 #[.agg #[.bool p, .string s]] w fun e w' => e = .returned (.int .i64 n.sign) ∧ Below w.heap.size w w' := rsign_any p s n (whole_cells h).1 (whole_cells h).2
theorem r3of_w {w0 : World} {p q : Bool} {s t : ByteArray} {n m : Int} (h : (Value.agg #[.bool p, .string s]) = wholeV n) (k : (Value.agg #[.bool q, .string t]) = wholeV m) (h1 : sz n ≤ 100000) (h2 : sz m ≤ 100000) (hm : m ≠ 0) :
    Calls Tryz.prog 61 #[.agg #[.bool p, .string s], .agg #[.bool q, .string t]] w0 fun e w' => e = .returned (fracV (Rat.divInt n m)) ∧ Below w0.heap.size w0 w' :=
  r3of_any p q s t n m (whole_cells h).1 (whole_cells k).1 (whole_cells h).2 (whole_cells k).2 (sz_of h h1) (sz_of k h2) hm
end Go.Proofs.YtaenedjanckaiaaGreat
