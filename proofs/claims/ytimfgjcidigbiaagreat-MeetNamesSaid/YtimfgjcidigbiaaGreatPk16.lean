/- OpnM. -/
import Derived.Test.YtimfgjcidigbiaaGreatPk15
set_option linter.unnecessarySimpa false
set_option linter.unusedVariables false
set_option linter.unusedSimpArgs false
section
namespace Go.Proofs.YtimfgjcidigbiaaGreat
open Go.ChangeShapes Go.WideShapes Go.ChangeAt Go.RowKit
section
variable {H : Type} {enc : TypeId × Value → H} {w : World} {base : Nat} {spare : Nat → Bool} {held : Bool}
theorem cellsOf_circle : Tryz.prog.cellsOf 50 = 16:=by kernel_rfl
set_option maxRecDepth 100000 in
theorem trod_circle {fuel : Nat} {cs : List Value} {x : DataW H × List MemPlace} (h : DataW.trod enc Tryz.prog w base spare held fuel 50 cs = some x) :
    ∃ (a b b' c : R4),cs = a.V ++ b.V ++ b'.V ++ c.V ∧ a.ok ∧ b.ok ∧ b'.ok ∧ c.ok:=by
  obtain ⟨xs,n,rfl,_,hlen,hxl,hf⟩:=DataW.trod_struct Tryz.underlying50 h
  rw [cellsOf_circle] at hlen
  have hx0 : xs[0]? = some (xs[0]'(by rw [hxl]; decide)):=List.getElem?_eq_getElem _
  have hx1 : xs[1]? = some (xs[1]'(by rw [hxl]; decide)):=List.getElem?_eq_getElem _
  have hx2 : xs[2]? = some (xs[2]'(by rw [hxl]; decide)):=List.getElem?_eq_getElem _
  have h0 : DataW.trod enc Tryz.prog w base spare held n 25 ((cs.drop 0).take (Tryz.prog.cellsOf 25)) = some _:=(hf 0 _ rfl).trans hx0
  have h1 : DataW.trod enc Tryz.prog w base spare held n 27 ((cs.drop 4).take (Tryz.prog.cellsOf 27)) = some _:=(hf 1 _ rfl).trans hx1
  have h2 : DataW.trod enc Tryz.prog w base spare held n 25 ((cs.drop 12).take (Tryz.prog.cellsOf 25)) = some _:=(hf 2 _ rfl).trans hx2
  rw [cellsOf_frac] at h0 h2
  rw [cellsOf_gauss] at h1
  obtain ⟨a0,e0,k0⟩:=trod_r4 h0
  obtain ⟨a1,b1,e1,k1⟩:=trod_gauss h1
  obtain ⟨a2,e2,k2⟩:=trod_r4 h2
  refine ⟨a0,a1,b1,a2,?_,k0,k1.1,k1.2,k2⟩
  have c0:=chunk cs 0 4
  have c1:=chunk cs (0 + 4) 8
  have c2:=chunk cs (0 + 4 + 8) 4
  rw [List.drop_eq_nil_of_le (show cs.length ≤ 0 + 4 + 8 + 4 by omega),List.append_nil] at c2
  rw [e2] at c2
  rw [e1,c2] at c1
  rw [e0,c1,List.drop_zero] at c0
  rw [c0]
  simp only [List.append_assoc]
set_option maxRecDepth 100000 in
theorem open_circle {r : Reach} {b0 : Nat} {v : Value} {d : DataW H} {p : List MemPlace} (hv : Value.okWide Tryz.prog w r b0 50 v) (h : DataW.Trod enc Tryz.prog w base spare held 50 v d p) :
    ∃ q : Y.Cp,v = .agg (q.a.V ++ q.b.V ++ q.b'.V ++ q.c.V).toArray:=by
  obtain ⟨cs,rfl,hsz⟩:=okWide_struct Tryz.underlying50 hv
  obtain ⟨fuel,hf⟩:=h
  obtain ⟨l⟩:=cs
  obtain ⟨a,b,b',c,rfl,h1,h2,h3,h4⟩:=trod_circle hf
  obtain ⟨q,rfl,rfl,rfl,rfl⟩:=Y.cp_of a b b' c h1 h2 h3 h4
  exact ⟨q,rfl⟩
theorem cellsOf_pair : Tryz.prog.cellsOf 71 = 8:=by kernel_rfl
set_option maxRecDepth 100000 in
theorem open_pair {r : Reach} {b0 : Nat} {v : Value} {d : DataW H} {p : List MemPlace} (hv : Value.okWide Tryz.prog w r b0 71 v) (h : DataW.Trod enc Tryz.prog w base spare held 71 v d p) :
    ∃ a b : Y.Fn,v = .agg (a.r.V ++ b.r.V).toArray:=by
  obtain ⟨cs,rfl,hsz⟩:=okWide_array Tryz.underlying71 hv
  obtain ⟨fuel,hf⟩:=h
  obtain ⟨l⟩:=cs
  obtain ⟨xs,n,rfl,_,hlen,hxl,hg⟩:=DataW.trod_array Tryz.underlying71 hf
  simp only [Value.cells] at hlen hg
  rw [cellsOf_pair] at hlen
  rw [cellsOf_frac] at hg
  have key : ∀ i,i < 2 → ∃ r : R4,(l.drop (i * 4)).take 4 = r.V ∧ r.ok:=fun i hi=>by
    have hx : xs[i]? = some (xs[i]'(by rw [hxl]; exact hi)):=List.getElem?_eq_getElem _
    exact trod_r4 ((hg i hi).trans hx)
  obtain ⟨a0,e0,k0⟩:=key 0 (by decide)
  obtain ⟨a1,e1,k1⟩:=key 1 (by decide)
  have c0:=chunk l (0 * 4) 4
  have c1:=chunk l (1 * 4) 4
  rw [e1,List.drop_of_length_le (show l.length ≤ 1 * 4 + 4 by omega),List.append_nil] at c1
  rw [e0,show 0 * 4 + 4 = 1 * 4 by rfl,c1,show 0 * 4 = 0 by rfl,List.drop_zero] at c0
  obtain ⟨a,rfl⟩:=Y.fn_of a0 k0
  obtain ⟨b,rfl⟩:=Y.fn_of a1 k1
  exact ⟨a,b,by rw [c0]⟩
end
end Go.Proofs.YtimfgjcidigbiaaGreat
end
