/- A fraction that came in, opened. -/
import Derived.Test.YtaenedjanckaiaaGreatMem
import Derived.ProofKit
import Derived.OpenShut
import Derived.ShutString
import Derived.ChangeOld
import Derived.Below
namespace Go.Proofs.YtaenedjanckaiaaGreat
set_option linter.unnecessarySimpa false
set_option linter.unusedVariables false
set_option linter.unusedSimpArgs false
open Go.ChangeShapes Go.WideShapes Go.ChangeAt Go.RowKit

theorem cellsOf_bool : Tryz.prog.cellsOf 4 = 1 := by kernel_rfl
theorem cellsOf_string : Tryz.prog.cellsOf 9 = 1 := by kernel_rfl
theorem cellsOf_whole : Tryz.prog.cellsOf 23 = 2 := by kernel_rfl
theorem cellsOf_frac : Tryz.prog.cellsOf 25 = 4 := by kernel_rfl
section
variable {H : Type} {enc : TypeId × Value → H} {w : World} {base : Nat} {spare : Nat → Bool} {held : Bool}
set_option maxRecDepth 100000 in
theorem trod_whole {fuel : Nat} {cs : List Value} {x : DataW H × List MemPlace} (h : DataW.trod enc Tryz.prog w base spare held fuel 23 cs = some x) :
    ∃ (b : Bool) (s : ByteArray), cs = [.bool b, .string s] ∧ s.size ≤ maxLen := by
  obtain ⟨xs, n, rfl, _, hlen, hxl, hf⟩ := DataW.trod_struct Tryz.underlying23 h
  rw [cellsOf_whole] at hlen
  have hx0 : xs[0]? = some (xs[0]'(by rw [hxl]; decide)) := List.getElem?_eq_getElem _
  have hx1 : xs[1]? = some (xs[1]'(by rw [hxl]; decide)) := List.getElem?_eq_getElem _
  have h0 : DataW.trod enc Tryz.prog w base spare held n 4 ((cs.drop 0).take (Tryz.prog.cellsOf 4)) = some _ := (hf 0 _ rfl).trans hx0
  have h1 : DataW.trod enc Tryz.prog w base spare held n 9 ((cs.drop 1).take (Tryz.prog.cellsOf 9)) = some _ := (hf 1 _ rfl).trans hx1
  rw [cellsOf_bool] at h0
  rw [cellsOf_string] at h1
  match cs, hlen with
  | [a, b], _ =>
    obtain ⟨p, e0, _⟩ := DataW.trod_bool Tryz.underlying4 h0
    obtain ⟨s, e1, _, hs⟩ := DataW.trod_string Tryz.underlying9 h1
    cases e0
    cases e1
    exact ⟨p, s, rfl, hs⟩
set_option maxRecDepth 100000 in
theorem trod_frac {fuel : Nat} {cs : List Value} {x : DataW H × List MemPlace} (h : DataW.trod enc Tryz.prog w base spare held fuel 25 cs = some x) :
    ∃ (b c : Bool) (s t : ByteArray), cs = [.bool b, .string s, .bool c, .string t] ∧ s.size ≤ maxLen ∧ t.size ≤ maxLen := by
  obtain ⟨xs, n, rfl, _, hlen, hxl, hf⟩ := DataW.trod_struct Tryz.underlying25 h
  rw [cellsOf_frac] at hlen
  have hx0 : xs[0]? = some (xs[0]'(by rw [hxl]; decide)) := List.getElem?_eq_getElem _
  have hx1 : xs[1]? = some (xs[1]'(by rw [hxl]; decide)) := List.getElem?_eq_getElem _
  have h0 : DataW.trod enc Tryz.prog w base spare held n 23 ((cs.drop 0).take (Tryz.prog.cellsOf 23)) = some _ := (hf 0 _ rfl).trans hx0
  have h1 : DataW.trod enc Tryz.prog w base spare held n 23 ((cs.drop 2).take (Tryz.prog.cellsOf 23)) = some _ := (hf 1 _ rfl).trans hx1
  rw [cellsOf_whole] at h0 h1
  match cs, hlen with
  | [a, b, c, d], _ =>
    obtain ⟨p, s, e0, hs⟩ := trod_whole h0
    obtain ⟨q, t, e1, ht⟩ := trod_whole h1
    cases e0
    cases e1
    exact ⟨p, q, s, t, rfl, hs, ht⟩
set_option maxRecDepth 100000 in
theorem open_whole {r : Reach} {b0 : Nat} {v : Value} {d : DataW H} {p : List MemPlace} (hv : Value.okWide Tryz.prog w r b0 23 v) (h : DataW.Trod enc Tryz.prog w base spare held 23 v d p) :
    ∃ (b : Bool) (s : ByteArray), v = .agg #[.bool b, .string s] ∧ s.size ≤ maxLen := by
  obtain ⟨cs, rfl, hsz⟩ := okWide_struct Tryz.underlying23 hv
  obtain ⟨fuel, hf⟩ := h
  obtain ⟨b, s, e, hs⟩ := trod_whole hf
  refine ⟨b, s, ?_, hs⟩
  obtain ⟨l⟩ := cs
  simp only [Value.cells] at e
  rw [← e]
set_option maxRecDepth 100000 in
theorem open_frac {r : Reach} {b0 : Nat} {v : Value} {d : DataW H} {p : List MemPlace} (hv : Value.okWide Tryz.prog w r b0 25 v) (h : DataW.Trod enc Tryz.prog w base spare held 25 v d p) :
    ∃ (b c : Bool) (s t : ByteArray), v = .agg #[.bool b, .string s, .bool c, .string t] ∧ s.size ≤ maxLen ∧ t.size ≤ maxLen := by
  obtain ⟨cs, rfl, hsz⟩ := okWide_struct Tryz.underlying25 hv
  obtain ⟨fuel, hf⟩ := h
  obtain ⟨b, c, s, t, e, hs, ht⟩ := trod_frac hf
  refine ⟨b, c, s, t, ?_, hs, ht⟩
  obtain ⟨l⟩ := cs
  simp only [Value.cells] at e
  rw [← e]
end
end Go.Proofs.YtaenedjanckaiaaGreat
