/- OpnB, OpnG. -/
import Derived.Test.YtiolbdleihiocaaGreatPk13
set_option linter.unnecessarySimpa false
set_option linter.unusedVariables false
set_option linter.unusedSimpArgs false
section
namespace Go.Proofs.YtiolbdleihiocaaGreat
open Go Go.ChangeShapes Go.WideShapes Go.ChangeAt Go.RowKit
theorem cellsOf_gauss : Tryz.prog.cellsOf 27 = 8 := by kernel_rfl
theorem chunk {α : Type} (cs : List α) (a b : Nat) : cs.drop a = (cs.drop a).take b ++ cs.drop (a + b) := by
  rw [← List.drop_drop, List.take_append_drop]
def R4.ok (x : R4) : Prop := x.s.size ≤ maxLen ∧ x.t.size ≤ maxLen
section
variable {H : Type} {enc : TypeId × Value → H} {w : World} {base : Nat} {spare : Nat → Bool} {held : Bool}
theorem trod_r4 {fuel : Nat} {cs : List Value} {x : DataW H × List MemPlace} (h : DataW.trod enc Tryz.prog w base spare held fuel 25 cs = some x) : ∃ r : R4, cs = r.V ∧ r.ok := by
  obtain ⟨b, c, s, t, e, h1, h2⟩ := trod_frac h
  exact ⟨⟨b, s, c, t⟩, e, h1, h2⟩
set_option maxRecDepth 100000 in
theorem trod_gauss {fuel : Nat} {cs : List Value} {x : DataW H × List MemPlace} (h : DataW.trod enc Tryz.prog w base spare held fuel 27 cs = some x) : ∃ r s : R4, cs = r.V ++ s.V ∧ r.ok ∧ s.ok := by
  obtain ⟨xs, n, rfl, _, hlen, hxl, hf⟩ := DataW.trod_struct Tryz.underlying27 h
  rw [cellsOf_gauss] at hlen
  have hx0 : xs[0]? = some (xs[0]'(by rw [hxl]; decide)) := List.getElem?_eq_getElem _
  have hx1 : xs[1]? = some (xs[1]'(by rw [hxl]; decide)) := List.getElem?_eq_getElem _
  have h0 : DataW.trod enc Tryz.prog w base spare held n 25 ((cs.drop 0).take (Tryz.prog.cellsOf 25)) = some _ := (hf 0 _ rfl).trans hx0
  have h1 : DataW.trod enc Tryz.prog w base spare held n 25 ((cs.drop 4).take (Tryz.prog.cellsOf 25)) = some _ := (hf 1 _ rfl).trans hx1
  rw [cellsOf_frac] at h0 h1
  obtain ⟨r, e0, k0⟩ := trod_r4 h0
  obtain ⟨s, e1, k1⟩ := trod_r4 h1
  refine ⟨r, s, ?_, k0, k1⟩
  have := chunk cs 0 4
  rw [e0, List.drop_zero] at this
  rw [this, chunk cs (0 + 4) 4, e1, List.drop_of_length_le (by omega), List.append_nil]
end
end Go.Proofs.YtiolbdleihiocaaGreat
end
section
namespace Go.Proofs.YtiolbdleihiocaaGreat
open Go Go.ChangeShapes Go.WideShapes Go.ChangeAt Go.RowKit
section
variable {H : Type} {enc : TypeId × Value → H} {w : World} {base : Nat} {spare : Nat → Bool} {held : Bool}
set_option maxRecDepth 100000 in
theorem open_gauss {r : Reach} {b0 : Nat} {v : Value} {d : DataW H} {p : List MemPlace} (hv : Value.okWide Tryz.prog w r b0 27 v) (h : DataW.Trod enc Tryz.prog w base spare held 27 v d p) :
    ∃ x y : R4, v = .agg (x.V ++ y.V).toArray ∧ x.ok ∧ y.ok := by
  obtain ⟨cs, rfl, hsz⟩ := okWide_struct Tryz.underlying27 hv
  obtain ⟨fuel, hf⟩ := h
  obtain ⟨l⟩ := cs
  obtain ⟨a, b, rfl, hh⟩ := trod_gauss hf
  exact ⟨a, b, rfl, hh⟩
end
end Go.Proofs.YtiolbdleihiocaaGreat
end
