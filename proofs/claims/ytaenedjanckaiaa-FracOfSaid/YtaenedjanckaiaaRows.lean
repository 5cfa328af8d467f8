/-
  No cell of these rows narrows 'for every input' (looked for: loops, veiled, ifaces, maps, wideKeys, modest, calm, conditions, laid).
  DERIVED. THE GIVEN ROWS OF THIS SEAT. 3 by the template 'for every input the law returns true; each argument reads behind the call as it read before'; 0 by the template 'total and deterministic' (their statements: YtaenedjanckaiaaTotals.lean).
  GIVEN WITH THE SEED: the statements are not yours to turn. If you find one false, say at which input.
  Laid BY PROGRAM, IN A SANDBOX (cutbox-rows.mjs): the forced cells as the released guide's own fill.sh prints them over the translation a5b73f33fa75ff6a… (all of the seat's roots in one cut). By AI agents, Wed Nov 11 2026. No macro, syntax, notation, axiom, sorry.
-/
import Derived.Test.YtaenedjanckaiaaChecked
import GoSem.Claim
import GoSem.ClaimJoined
import GoSem.ClaimMapViews
import Derived.JoinedTies
import Derived.KernelRfl
namespace Go.Proofs.Ytaenedjanckaiaa
/- THE CELL 'sum', in the pinned program and in every row, IS THE sha256 OF THE DUMP (.gsa) THAT YtaenedjanckaiaaProg.lean LOADS. Nothing in Lean hashes anything: it is a label: what it is worth is what the hold of that sum in a sandbox is worth. -/
noncomputable def Try.pinned : Pinned := { name := "ytaenedjanckaiaa", sum := "a5b73f33fa75ff6aadc253fd67b0d3659a0c314588b695f695500d4297e884e7", checked := Try.checked }
namespace Rows
def none {H : Type} : Left H := { results := [], args := [] }

/-- 'tracerylaw03.FracOf': WHATEVER THE INPUT: true; the input reads as it did. -/
def fracOfSpec : ChangeSpec := { name := "fracOf", fn := fun _ => fun
  | [d1, d2] => { results := [.lit (.bool true)], args := [d1, d2] }
  | _ => none }
def fracOfRow : OpenClaim := { program := "ytaenedjanckaiaa", sum := "a5b73f33fa75ff6aadc253fd67b0d3659a0c314588b695f695500d4297e884e7", func := "tracery/tracerylaw03.FracOf", spec := "fracOf", unfollowed := true, recurses := true, apart := false }
def FracOfSaid : Prop := fracOfRow.holds Try.pinned (OpenSpec.ofChange fracOfSpec)

/-- ITS FALSE NEIGHBOUR: 'it returns false'. Refute it at one input. -/
def fracOfWrong : ChangeSpec := { name := "fracOf", fn := fun _ => fun
  | [d1, d2] => { results := [.lit (.bool false)], args := [d1, d2] }
  | _ => none }
def FracOfWrongFalsely : Prop := fracOfRow.holds Try.pinned (OpenSpec.ofChange fracOfWrong)

/-- 'tracerylaw03.FracRules': WHATEVER THE INPUT: true; the input reads as it did. -/
def fracRulesSpec : ChangeSpec := { name := "fracRules", fn := fun _ => fun
  | [d1, d2, d3] => { results := [.lit (.bool true)], args := [d1, d2, d3] }
  | _ => none }
def fracRulesRow : OpenClaim := { program := "ytaenedjanckaiaa", sum := "a5b73f33fa75ff6aadc253fd67b0d3659a0c314588b695f695500d4297e884e7", func := "tracery/tracerylaw03.FracRules", spec := "fracRules", unfollowed := true, recurses := true, apart := false }
def FracRulesSaid : Prop := fracRulesRow.holds Try.pinned (OpenSpec.ofChange fracRulesSpec)

/-- ITS FALSE NEIGHBOUR: 'it returns false'. Refute it at one input. -/
def fracRulesWrong : ChangeSpec := { name := "fracRules", fn := fun _ => fun
  | [d1, d2, d3] => { results := [.lit (.bool false)], args := [d1, d2, d3] }
  | _ => none }
def FracRulesWrongFalsely : Prop := fracRulesRow.holds Try.pinned (OpenSpec.ofChange fracRulesWrong)

/-- 'tracerylaw03.FracNear': WHATEVER THE INPUT: true; the input reads as it did. -/
def fracNearSpec : ChangeSpec := { name := "fracNear", fn := fun _ => fun
  | [d1, d2, d3] => { results := [.lit (.bool true)], args := [d1, d2, d3] }
  | _ => none }
def fracNearRow : OpenClaim := { program := "ytaenedjanckaiaa", sum := "a5b73f33fa75ff6aadc253fd67b0d3659a0c314588b695f695500d4297e884e7", func := "tracery/tracerylaw03.FracNear", spec := "fracNear", unfollowed := true, recurses := true, apart := false }
def FracNearSaid : Prop := fracNearRow.holds Try.pinned (OpenSpec.ofChange fracNearSpec)

/-- ITS FALSE NEIGHBOUR: 'it returns false'. Refute it at one input. -/
def fracNearWrong : ChangeSpec := { name := "fracNear", fn := fun _ => fun
  | [d1, d2, d3] => { results := [.lit (.bool false)], args := [d1, d2, d3] }
  | _ => none }
def FracNearWrongFalsely : Prop := fracNearRow.holds Try.pinned (OpenSpec.ofChange fracNearWrong)

/- THE SECOND FORM. 'bulk': how many values and letters a reading holds, each counted each time it is reached (what is shared counts as often as it is met; a slice's spare places count too). A statement '..UptoSaid' is the law's where the arguments, and the package variables that the reading takes, are together of bulk at most 1048576: NARROWER than '..Said'. Prove '..Said' where nothing that the law and all that it calls make is longer than what came in: it says more and counts as full. Else prove '..UptoSaid'. A law counts once. -/
mutual
def uptoBulk {H : Type} : DataW H → Nat
  | .lit (.string bytes) => bytes.length + 1
  | .lit _ => 1
  | .nil => 1
  | .ptr d => uptoBulk d + 1
  | .slice elems spare => uptoBulkAll elems + uptoBulkAll spare + 1
  | .agg parts => uptoBulkAll parts + 1
  | .iface _ d => uptoBulk d + 1
  | .map entries => uptoBulkEntries entries + 1
  | .held _ => 1
def uptoBulkAll {H : Type} : List (DataW H) → Nat
  | [] => 0
  | d :: r => uptoBulk d + uptoBulkAll r
def uptoBulkEntries {H : Type} : List (Lit × DataW H) → Nat
  | [] => 0
  | x :: r => uptoBulkEntry x + uptoBulkEntries r
def uptoBulkEntry {H : Type} : Lit × DataW H → Nat
  | (.string bytes, d) => bytes.length + uptoBulk d + 1
  | (_, d) => uptoBulk d + 1
 end
def uptoSmall : (H : Type) → List (DataW H) → Bool := fun _ ds => decide (uptoBulkAll ds ≤ 1048576)
def OpenSpec.upto (s : _root_.Go.ChangeSpec) : _root_.Go.OpenSpec := { _root_.Go.OpenSpec.ofChange s with cond := some uptoSmall }

/-- 'tracerylaw03.FracOf', WHERE WHAT IT READS IS OF BULK AT MOST 1048576: true; the input reads as it did. -/
def fracOfUptoRow : OpenClaim := { program := "ytaenedjanckaiaa", sum := "a5b73f33fa75ff6aadc253fd67b0d3659a0c314588b695f695500d4297e884e7", func := "tracery/tracerylaw03.FracOf", spec := "fracOf", unfollowed := true, recurses := true, apart := false, narrowed := true }
def FracOfUptoSaid : Prop := fracOfUptoRow.holds Try.pinned (OpenSpec.upto fracOfSpec)

/-- 'tracerylaw03.FracRules', WHERE WHAT IT READS IS OF BULK AT MOST 1048576: true; the input reads as it did. -/
def fracRulesUptoRow : OpenClaim := { program := "ytaenedjanckaiaa", sum := "a5b73f33fa75ff6aadc253fd67b0d3659a0c314588b695f695500d4297e884e7", func := "tracery/tracerylaw03.FracRules", spec := "fracRules", unfollowed := true, recurses := true, apart := false, narrowed := true }
def FracRulesUptoSaid : Prop := fracRulesUptoRow.holds Try.pinned (OpenSpec.upto fracRulesSpec)

/-- 'tracerylaw03.FracNear', WHERE WHAT IT READS IS OF BULK AT MOST 1048576: true; the input reads as it did. -/
def fracNearUptoRow : OpenClaim := { program := "ytaenedjanckaiaa", sum := "a5b73f33fa75ff6aadc253fd67b0d3659a0c314588b695f695500d4297e884e7", func := "tracery/tracerylaw03.FracNear", spec := "fracNear", unfollowed := true, recurses := true, apart := false, narrowed := true }
def FracNearUptoSaid : Prop := fracNearUptoRow.holds Try.pinned (OpenSpec.upto fracNearSpec)

end Rows
end Go.Proofs.Ytaenedjanckaiaa
