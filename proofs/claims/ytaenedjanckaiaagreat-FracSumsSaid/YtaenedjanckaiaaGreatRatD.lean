/- Package big: fractions: SetInt, SetInt64. -/
import Derived.Test.YtaenedjanckaiaaGreatRatC
namespace Go.Proofs.YtaenedjanckaiaaGreat
set_option linter.unnecessarySimpa false
set_option linter.unusedVariables false
set_option linter.unusedSimpArgs false
open Go.RowKit

theorem sg_inj {n m : Int} (h : decide (n < 0) = decide (m < 0)) (k : n.natAbs = m.natAbs) : n = m := by
  have : (n < 0) ↔ (m < 0) := decide_eq_decide.1 h
  omega
theorem words_val {w : World} {A : Option Addr} {l c : Nat} {xs ys : List Nat} (h : Words w (.slice A l c) xs) (k : Words w (.slice A l c) ys) : xs = ys := by
  have h1 := h.len.1
  have k1 := k.len.1
  rcases Nat.eq_zero_or_pos l with h0 | h0
  · have e1 : xs = [] := List.eq_nil_of_length_eq_zero (by omega)
    have e2 : ys = [] := List.eq_nil_of_length_eq_zero (by omega)
    rw [e1, e2]
  · obtain ⟨b, o, rfl, h2⟩ := h.open_ h0
    obtain ⟨b', o', e, k2⟩ := k.open_ h0
    cases Option.some.inj e
    refine val_eq_of_same xs ys (by omega) fun i hi => ?_
    have h3 := h2 i (by omega)
    have k3 := k2 i (by omega)
    rw [h3] at k3
    injection k3 with k3
    injection k3 with _ k3
    exact Int.ofNat.inj k3
/-- A place holds one number. -/
theorem IntAt.uniq {w : World} {b o : Nat} {n m : Int} (h : IntAt w b o n) (k : IntAt w b o m) : n = m := by
  obtain ⟨A, l, c, h0, h1, h2, _⟩ := h.open_
  obtain ⟨B, l', c', k0, k1, k2, _⟩ := k.open_
  rw [h1] at k1
  cases Option.some.inj k1
  rw [h0] at k0
  have e := Option.some.inj k0
  injection e with e
  refine sg_inj e ?_
  have := words_val h2 k2
  rw [← val_dig n.natAbs, this, val_dig]

/-- What stays in SetInt's region. -/
structure SE (base b o : Nat) (n : Int) (w w' : World) : Prop where
  zero : ∀ g, base ≤ g → IntAt w g 0 0 → IntAt w' g 0 0 ∨ IntAt w' g 0 n
  one : ∀ g, base ≤ g → IntAt w g 0 1 → IntAt w' g 0 1
  num : ∀ g, base ≤ g → IntAt w g 0 n → IntAt w' g 0 n
  words : ∀ v xs, Words w v xs → Words w' v xs
  stored : IntAt w b o n → IntAt w' b o n
theorem SE.below {base b o : Nat} {n : Int} {w w' : World} (h : Below w.heap.size w w') : SE base b o n w w' :=
  ⟨fun _ _ k => .inl (k.on h), fun _ _ k => k.on h, fun _ _ k => k.on h, fun _ _ k => k.below h, fun k => k.on h⟩
theorem SE.set {base b o g : Nat} {n : Int} {w w' : World} (hb : b < base) (hg : base ≤ g) (h0 : IntAt w g 0 0 ∨ IntAt w g 0 n) (h1 : IntAt w' g 0 n) (ht : Touch w w' g 0 2) : SE base b o n w w' := by
  have hsl : Slot w g 0 2 := by rcases h0 with h | h <;> exact h.slot
  have far : ∀ c m, c ≠ g → IntAt w c 0 m → IntAt w' c 0 m := fun c m hc k => k.touch hsl ht (.inl hc)
  have key : ∀ c m, (m = 1 ∨ m = n) → IntAt w c 0 m → IntAt w' c 0 m := by
    intro c m hm k
    by_cases e : c = g
    · subst e
      rcases h0 with h | h
      · have := k.uniq h
        rcases hm with rfl | rfl
        · cases this
        · exact h1
      · have := k.uniq h
        rw [this]
        exact h1
    · exact far c m e k
  refine ⟨fun c _ k => ?_, fun c _ k => key c 1 (.inl rfl) k, fun c _ k => key c n (.inr rfl) k, fun v xs k => k.touch hsl ht, fun k => k.touch hsl ht (.inl (by omega))⟩
  · by_cases e : c = g
    · subst e; exact .inr h1
    · exact .inl (far c 0 e k)
theorem SE.store {base b o : Nat} {n : Int} {w w' : World} (hs : Slot w b o 4) (hb : b < base) (ht : Touch w w' b o 2) (hn : IntAt w' b o n) : SE base b o n w w' :=
  ⟨fun _ hc k => .inl (k.touch hs ht (.inl (by omega))), fun _ hc k => k.touch hs ht (.inl (by omega)), fun _ hc k => k.touch hs ht (.inl (by omega)), fun _ _ k => k.touch hs ht, fun _ => hn⟩
/-- A number, written. -/
theorem intAt_put {w : World} {b o : Nat} {s : Bool} {v : Value} {n : Int} (hs : Slot w b o 2) (hw : Words w v (dig n.natAbs)) (e : decide (n < 0) = s) :
    IntAt ((w.setCell ⟨b, o, none⟩ (.bool s)).setCell ⟨b, o + 1, none⟩ v) b o n ∧ Touch w ((w.setCell ⟨b, o, none⟩ (.bool s)).setCell ⟨b, o + 1, none⟩ v) b o 2 := by
  have ht : Touch w ((w.setCell ⟨b, o, none⟩ (.bool s)).setCell ⟨b, o + 1, none⟩ v) b o 2 := ((Touch.refl w b o 2).set_ o (by omega) _).set_ (o + 1) (by omega) _
  obtain ⟨cs, t, k1, k2, k3⟩ := id hs
  have hb : ((w.setCell ⟨b, o, none⟩ (.bool s)).setCell ⟨b, o + 1, none⟩ v).heap[b]? = some (.cells ((cs.setIfInBounds o (.bool s)).setIfInBounds (o + 1) v) t (0, 0)) := by
    simp [World.setCell, Array.getElem?_modify, k1]
  refine ⟨⟨hs.touch ht, ?_, v, ?_, hw.touch hs ht⟩, ht⟩
  · rw [cell_of_row _ _ _ _ _ _ hb, Array.getElem?_setIfInBounds_ne (by omega), Array.getElem?_setIfInBounds_self_of_lt (by omega), e]
  · rw [cell_of_row _ _ _ _ _ _ hb, Array.getElem?_setIfInBounds_self_of_lt (by simp; omega)]
theorem Touch.then_ {a b c : World} {g o n : Nat} (h : Touch a b g o n) (hg : g < a.heap.size) (k : Below a.heap.size b c) : Touch a c g o n :=
  ⟨k.os.trans h.os, k.tape.trans h.tape, k.output.trans h.output, Nat.le_trans h.size k.size, fun j hj hne => (k.block j hj).trans (h.block j hj hne), fun cs t fr hc => by
    obtain ⟨cs1, k1, k2, k3⟩ := h.own cs t fr hc
    exact ⟨cs1, by rw [k.block g hg]; exact k1, k2, k3⟩⟩

set_option maxHeartbeats 1600000 in
set_option maxRecDepth 100000 in
theorem SetInt_any {w : World} {b o c p : Nat} {n : Int} (hz : Slot w b o 4) (hx : IntAt w c p n) (hne : c ≠ b) :
    Calls Tryz.prog 69 #[.pointer (some ⟨b, o, none⟩), .pointer (some ⟨c, p, none⟩)] w fun e w' => e = .returned (.pointer (some ⟨b, o, none⟩)) ∧ RatAt w' b o (n : Rat) ∧ Touch w w' b o 4 := by
  have HX := Lib.hid hx
  have HZ := Lib.hid hz
  have HNE := Lib.hid hne
  obtain ⟨B, hB⟩ : ∃ B, B = w.heap.size := ⟨_, rfl⟩
  have HB := Lib.hid hB
  have HBB : Hid (b < B) := by rw [hB]; exact hz.lt
  clear hx hz hne hB
  go_enter Tryz.func69, Tryz.ntmps69
  go_wp2
  refine wp_region_acts 13 (fun w' => Touch w w' b o 4) (fun w w' => SE B b o n w w') (fun i w v => match i with
      | 0 => v = .pointer (some ⟨b, o, none⟩)
      | 1 => v = .pointer (some ⟨b, o, none⟩)
      | 2 => ∃ g, v = .pointer (some ⟨g, 0, none⟩) ∧ B ≤ g ∧ (IntAt w g 0 0 ∨ IntAt w g 0 n)
      | 3 => v = .pointer (some ⟨c, p, none⟩)
      | 4 => ∃ g, v = .pointer (some ⟨g, 0, none⟩) ∧ B ≤ g ∧ IntAt w g 0 n
      | 5 => ∃ g, v = .pointer (some ⟨g, 0, none⟩) ∧ B ≤ g ∧ IntAt w g 0 n
      | 6 => ∃ A l k, v = .agg #[.bool (decide (n < 0)), .slice A l k] ∧ Words w (.slice A l k) (dig n.natAbs)
      | 7 => ∃ g, v = .pointer (some ⟨g, 0, none⟩) ∧ B ≤ g ∧ IntAt w g 0 1
      | 8 => ∃ g, v = .pointer (some ⟨g, 0, none⟩) ∧ B ≤ g ∧ IntAt w g 0 1
      | 9 => ∃ A l k, v = .agg #[.bool (decide ((1 : Int) < 0)), .slice A l k] ∧ Words w (.slice A l k) (dig (1 : Int).natAbs)
      | 10 => v = .pointer (some ⟨b, o, none⟩)
      | 11 => v = .pointer (some ⟨b, o, none⟩)
      | _ => IntAt w b o n) (by kernel_rfl) (by kernel_rfl) (by kernel_rfl) ((Touch.refl _ _ _ _).drew) (fun _ _ => SE.below (Below.refl _ _)) ?_ ⟨?_, ?_, ?_, ?_, ?_, ?_, ?_, ?_, ?_, ?_, ?_, ?_, ?_, trivial⟩ ?_
  · intro i w1 w2 v hC hC2 hE hV
    match i with
    | 0 => exact hV
    | 1 => exact hV
    | 2 => obtain ⟨g, e, hb, h⟩ := hV; exact ⟨g, e, hb, h.elim (fun h => hE.zero g hb h) (fun h => .inr (hE.num g hb h))⟩
    | 3 => exact hV
    | 4 => obtain ⟨g, e, hb, h⟩ := hV; exact ⟨g, e, hb, hE.num g hb h⟩
    | 5 => obtain ⟨g, e, hb, h⟩ := hV; exact ⟨g, e, hb, hE.num g hb h⟩
    | 6 => obtain ⟨A, l, k, e, h⟩ := hV; exact ⟨A, l, k, e, hE.words _ _ h⟩
    | 7 => obtain ⟨g, e, hb, h⟩ := hV; exact ⟨g, e, hb, hE.one g hb h⟩
    | 8 => obtain ⟨g, e, hb, h⟩ := hV; exact ⟨g, e, hb, hE.one g hb h⟩
    | 9 => obtain ⟨A, l, k, e, h⟩ := hV; exact ⟨A, l, k, e, hE.words _ _ h⟩
    | 10 => exact hV
    | 11 => exact hV
    | _ + 12 => exact hE.stored hV
  · intro a' w' hag hC hd K hK
    have e0 : a'.tmps.getD 0 undef = .pointer (some ⟨b, o, none⟩) := hag 0 rfl
    go_step
    exact hK _ _ hC (SE.below (Below.refl _ _)) rfl
  · intro a' w' hag hC hd K hK
    have e0 : a'.tmps.getD 0 undef = .pointer (some ⟨b, o, none⟩) := hag 0 rfl
    go_step
    exact hK _ _ hC (SE.below (Below.refl _ _)) rfl
  · intro a' w' hag hC hd K hK
    have hb : Below w'.heap.size w' (w'.alloc (.cells #[.bool false, .slice none 0 0] 83)) := (Below.refl _ _).alloc (Nat.le_refl _) _
    have HK := Lib.hid (hK (.pointer (some ⟨w'.heap.size, 0, none⟩)) _ (hC.then_below hb) (SE.below hb) ⟨_, rfl, by rw [HB.out]; exact hC.size, .inl (IntAt.new w')⟩)
    clear hb hK hC
    go_step
    exact HK.out
  · intro a' w' hag hC hd K hK
    have e1 : a'.tmps.getD 1 undef = .pointer (some ⟨c, p, none⟩) := hag 1 rfl
    go_step
    exact hK _ _ hC (SE.below (Below.refl _ _)) rfl
  · intro a' w' hag hC hd K hK
    obtain ⟨g7, e7, hb7, h7⟩ := hd.1
    have e7 : a'.tmps.getD 7 undef = .pointer (some ⟨g7, 0, none⟩) := e7
    have e8 : a'.tmps.getD 8 undef = .pointer (some ⟨c, p, none⟩) := hd.2.1
    have hs7 : Slot w' g7 0 2 := by rcases h7 with h | h <;> exact h.slot
    have hx' := HX.out.touch HZ.out hC (.inl HNE.out)
    go_step
    refine (set_any hs7 hx').mono ?_
    rintro e w2 ⟨rfl, h1, h2⟩
    exact hK _ _ (hC.then_ HZ.out.lt (h2.below (by rw [← HB.out]; exact hb7) hC.size)) (SE.set HBB.out hb7 h7 h1 h2) ⟨_, rfl, hb7, h1⟩
  · intro a' w' hag hC hd K hK
    obtain ⟨g9, e9, hb9, h9⟩ := hd.1
    have e9 : a'.tmps.getD 9 undef = .pointer (some ⟨g9, 0, none⟩) := e9
    go_step
    exact hK _ _ hC (SE.below (Below.refl _ _)) ⟨g9, rfl, hb9, h9⟩
  · intro a' w' hag hC hd K hK
    obtain ⟨g9, e10, hb9, h9⟩ := hd.1
    have e10 : a'.tmps.getD 10 undef = .pointer (some ⟨g9, 0, none⟩) := e10
    obtain ⟨A, l, k, hc0, hc1, hcw, _⟩ := h9.open_
    rw [Nat.zero_add] at hc1
    generalize hs1 : decide (n < 0) = s1 at hc0
    have HS1 := Lib.hid hs1
    clear hs1
    have HK := Lib.hid (hK (.agg #[.bool s1, .slice A l k]) _ hC (SE.below (Below.refl _ _)) ⟨A, l, k, by rw [HS1.out], hcw⟩)
    clear hK hC hcw
    go_step
    exact HK.out
  · intro a' w' hag hC hd K hK
    go_step
    refine (NewInt_any (by omega)).mono ?_
    rintro e w2 ⟨g, rfl, hg, h1, h2⟩
    exact hK _ _ (hC.then_below h2) (SE.below h2) ⟨_, rfl, by rw [HB.out]; exact Nat.le_trans hC.size hg, h1⟩
  · intro a' w' hag hC hd K hK
    obtain ⟨g12, e12, hb12, h12⟩ := hd.1
    have e12 : a'.tmps.getD 12 undef = .pointer (some ⟨g12, 0, none⟩) := e12
    go_step
    exact hK _ _ hC (SE.below (Below.refl _ _)) ⟨g12, rfl, hb12, h12⟩
  · intro a' w' hag hC hd K hK
    obtain ⟨g12, e13, hb12, h12⟩ := hd.1
    have e13 : a'.tmps.getD 13 undef = .pointer (some ⟨g12, 0, none⟩) := e13
    obtain ⟨A, l, k, hc0, hc1, hcw, _⟩ := h12.open_
    rw [Nat.zero_add] at hc1
    generalize hs1 : decide ((1 : Int) < 0) = s1 at hc0
    have HS1 := Lib.hid hs1
    clear hs1
    have HK := Lib.hid (hK (.agg #[.bool s1, .slice A l k]) _ hC (SE.below (Below.refl _ _)) ⟨A, l, k, by rw [HS1.out], hcw⟩)
    clear hK hC hcw
    go_step
    exact HK.out
  · intro a' w' hag hC hd K hK
    have e5 : a'.tmps.getD 5 undef = .pointer (some ⟨b, o, none⟩) := hd.1
    go_step
    exact hK _ _ hC (SE.below (Below.refl _ _)) rfl
  · intro a' w' hag hC hd K hK
    have e15 : a'.tmps.getD 15 undef = .pointer (some ⟨b, o, none⟩) := hd.1
    go_step
    exact hK _ _ hC (SE.below (Below.refl _ _)) rfl
  · intro a' w' hag hC hd K hK
    have e16 : a'.tmps.getD 16 undef = .pointer (some ⟨b, o, none⟩) := hd.1
    obtain ⟨A11, l11, k11, e11, h11⟩ := hd.2.1
    have e11 : a'.tmps.getD 11 undef = .agg #[.bool (decide (n < 0)), .slice A11 l11 k11] := e11
    have hs' := HZ.out.touch hC
    obtain ⟨v0, hv0⟩ := hs'.cell o (by omega)
    obtain ⟨v1, hv1⟩ := hs'.cell (o + 1) (by omega)
    have hf : ∀ i, w'.frozen? ⟨b, i, none⟩ = false := fun i => hs'.frozen i
    generalize hs1 : decide (n < 0) = s1 at e11
    obtain ⟨k1, k2⟩ := intAt_put (show Slot w' b o 2 from hs'.part (by omega)) h11 hs1
    have HK := Lib.hid (hK undef _ (hC.trans (k2.mono (Nat.le_refl _) (by omega))) (SE.store hs' HBB.out k2 k1) k1)
    clear hK hC k1 k2 hs1
    go_step
    exact HK.out
  · intro u w' hC hall
    obtain ⟨u0, u1, u2, u3, u4, u5, u6, u7, u8, u9, u10, u11, u12, _⟩ := hall
    have u0 : u 0 = .pointer (some ⟨b, o, none⟩) := u0
    have u1 : u 1 = .pointer (some ⟨b, o, none⟩) := u1
    have u3 : u 3 = .pointer (some ⟨c, p, none⟩) := u3
    obtain ⟨A14, l14, k14, eu9, h14⟩ := u9
    have u9 : u 9 = .agg #[.bool (decide ((1 : Int) < 0)), .slice A14 l14 k14] := eu9
    have u10 : u 10 = .pointer (some ⟨b, o, none⟩) := u10
    have u11 : u 11 = .pointer (some ⟨b, o, none⟩) := u11
    simp only [fillR, List.take_succ_cons, List.take_zero, Act.put, List.setIfInBounds_toArray, List.set_cons_succ, List.set_cons_zero, Nat.zero_add, Nat.reduceAdd, u0, u1, u3, u9, u10, u11]
    clear u0 u1 u3 u9 u10 u11
    have hst : IntAt w' b o n := u12
    have hs' := HZ.out.touch hC
    obtain ⟨v0, hv0⟩ := hs'.cell (o + 2) (by omega)
    obtain ⟨v1, hv1⟩ := hs'.cell (o + 2 + 1) (by omega)
    have hf : ∀ i, w'.frozen? ⟨b, i, none⟩ = false := fun i => hs'.frozen i
    generalize hs1 : decide ((1 : Int) < 0) = s1
    obtain ⟨k1, k2⟩ := intAt_put (show Slot w' b (o + 2) 2 from hs'.part (by omega)) h14 hs1
    have hn2 := hst.touch (hs'.part (show o + 2 + 2 ≤ o + 4 by omega)) k2 (.inr (.inl (Nat.le_refl _)))
    have HT := Lib.hid (hC.trans (k2.mono (by omega) (by omega)))
    have HR : Hid (RatAt ((w'.setCell ⟨b, o + 2, none⟩ (.bool s1)).setCell ⟨b, o + 2 + 1, none⟩ (.slice A14 l14 k14)) b o (n : Rat)) := by
      refine ⟨hs'.touch k2, ?_, 1, k1, .inl ?_⟩
      · rw [Rat.num_intCast]; exact hn2
      · rw [Rat.den_intCast]; rfl
    clear hC k1 k2 hs1 hst hn2 h14 hs' u12
    go_wp2
    go_ret
    exact ⟨rfl, HR.out, HT.out⟩
end Go.Proofs.YtaenedjanckaiaaGreat
