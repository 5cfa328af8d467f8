/-
  No cell of these rows narrows 'for every input' (looked for: loops, veiled, ifaces, maps, wideKeys, modest, calm, conditions, laid).
  DERIVED. THE GIVEN ROWS OF THIS SEAT. 4 by the template 'for every input the law returns true; each argument reads behind the call as it read before'; 0 by the template 'total and deterministic' (their statements: YtaenedjanckaiaaGreatTotals.lean).
  GIVEN WITH THE SEED: the statements are not yours to turn. If you find one false, say at which input.
  Laid BY PROGRAM, IN A SANDBOX (cutbox-rows.mjs): the forced cells as the released guide's own fill.sh prints them over the translation 2c825967174c29e5… (all of the seat's roots in one cut). By AI agents, Wed Nov 11 2026. No macro, syntax, notation, axiom, sorry.
-/
import Derived.Test.YtaenedjanckaiaaGreatChecked
import GoSem.Claim
import GoSem.ClaimJoined
import GoSem.ClaimMapViews
import Derived.JoinedTies
import Derived.KernelRfl
namespace Go.Proofs.YtaenedjanckaiaaGreat
/- THE CELL 'sum', in the pinned program and in every row, IS THE sha256 OF THE DUMP (.gsa) THAT YtaenedjanckaiaaGreatProg.lean LOADS. Nothing in Lean hashes anything: it is a label: what it is worth is what the hold of that sum in a sandbox is worth. -/
noncomputable def Tryz.pinned : Pinned := { name := "ytaenedjanckaiaagreat", sum := "2c825967174c29e5643e7b08b209138f5961ffcb2d55dfceeda81f5d70e21bf1", checked := Tryz.checked }
namespace Rows
def none {H : Type} : Left H := { results := [], args := [] }

/-- 'tracerylaw03.FracSums': WHATEVER THE INPUT: true; the input reads as it did. -/
def fracSumsSpec : ChangeSpec := { name := "fracSums", fn := fun _ => fun
  | [d1, d2] => { results := [.lit (.bool true)], args := [d1, d2] }
  | _ => none }
def fracSumsRow : OpenClaim := { program := "ytaenedjanckaiaagreat", sum := "2c825967174c29e5643e7b08b209138f5961ffcb2d55dfceeda81f5d70e21bf1", func := "tracery/tracerylaw03.FracSums", spec := "fracSums", unfollowed := true, recurses := true, apart := false }
def FracSumsSaid : Prop := fracSumsRow.holds Tryz.pinned (OpenSpec.ofChange fracSumsSpec)

/-- ITS FALSE NEIGHBOUR: 'it returns false'. Refute it at one input. -/
def fracSumsWrong : ChangeSpec := { name := "fracSums", fn := fun _ => fun
  | [d1, d2] => { results := [.lit (.bool false)], args := [d1, d2] }
  | _ => none }
def FracSumsWrongFalsely : Prop := fracSumsRow.holds Tryz.pinned (OpenSpec.ofChange fracSumsWrong)

/-- 'tracerylaw03.FracQuotients': WHATEVER THE INPUT: true; the input reads as it did. -/
def fracQuotientsSpec : ChangeSpec := { name := "fracQuotients", fn := fun _ => fun
  | [d1, d2, d3] => { results := [.lit (.bool true)], args := [d1, d2, d3] }
  | _ => none }
def fracQuotientsRow : OpenClaim := { program := "ytaenedjanckaiaagreat", sum := "2c825967174c29e5643e7b08b209138f5961ffcb2d55dfceeda81f5d70e21bf1", func := "tracery/tracerylaw03.FracQuotients", spec := "fracQuotients", unfollowed := true, recurses := true, apart := false }
def FracQuotientsSaid : Prop := fracQuotientsRow.holds Tryz.pinned (OpenSpec.ofChange fracQuotientsSpec)

/-- ITS FALSE NEIGHBOUR: 'it returns false'. Refute it at one input. -/
def fracQuotientsWrong : ChangeSpec := { name := "fracQuotients", fn := fun _ => fun
  | [d1, d2, d3] => { results := [.lit (.bool false)], args := [d1, d2, d3] }
  | _ => none }
def FracQuotientsWrongFalsely : Prop := fracQuotientsRow.holds Tryz.pinned (OpenSpec.ofChange fracQuotientsWrong)

/-- 'tracerylaw03.FracSimple': WHATEVER THE INPUT: true; the input reads as it did. -/
def fracSimpleSpec : ChangeSpec := { name := "fracSimple", fn := fun _ => fun
  | [d1, d2] => { results := [.lit (.bool true)], args := [d1, d2] }
  | _ => none }
def fracSimpleRow : OpenClaim := { program := "ytaenedjanckaiaagreat", sum := "2c825967174c29e5643e7b08b209138f5961ffcb2d55dfceeda81f5d70e21bf1", func := "tracery/tracerylaw03.FracSimple", spec := "fracSimple", unfollowed := true, recurses := true, apart := false }
def FracSimpleSaid : Prop := fracSimpleRow.holds Tryz.pinned (OpenSpec.ofChange fracSimpleSpec)

/-- ITS FALSE NEIGHBOUR: 'it returns false'. Refute it at one input. -/
def fracSimpleWrong : ChangeSpec := { name := "fracSimple", fn := fun _ => fun
  | [d1, d2] => { results := [.lit (.bool false)], args := [d1, d2] }
  | _ => none }
def FracSimpleWrongFalsely : Prop := fracSimpleRow.holds Tryz.pinned (OpenSpec.ofChange fracSimpleWrong)

/-- 'tracerylaw03.FracOne': WHATEVER THE INPUT: true; the input reads as it did. -/
def fracOneSpec : ChangeSpec := { name := "fracOne", fn := fun _ => fun
  | [d1, d2, d3] => { results := [.lit (.bool true)], args := [d1, d2, d3] }
  | _ => none }
def fracOneRow : OpenClaim := { program := "ytaenedjanckaiaagreat", sum := "2c825967174c29e5643e7b08b209138f5961ffcb2d55dfceeda81f5d70e21bf1", func := "tracery/tracerylaw03.FracOne", spec := "fracOne", unfollowed := true, recurses := true, apart := false }
def FracOneSaid : Prop := fracOneRow.holds Tryz.pinned (OpenSpec.ofChange fracOneSpec)

/-- ITS FALSE NEIGHBOUR: 'it returns false'. Refute it at one input. -/
def fracOneWrong : ChangeSpec := { name := "fracOne", fn := fun _ => fun
  | [d1, d2, d3] => { results := [.lit (.bool false)], args := [d1, d2, d3] }
  | _ => none }
def FracOneWrongFalsely : Prop := fracOneRow.holds Tryz.pinned (OpenSpec.ofChange fracOneWrong)

/- THE SECOND FORM. 'bulk': how many values and letters a reading holds, each counted each time it is reached (what is shared counts as often as it is met; a slice's spare places count too). A statement '..UptoSaid' is the law's where the arguments, and the package variables that the reading takes, are together of bulk at most 1048576: NARROWER than '..Said'. Prove '..Said' where nothing that the law and all that it calls make is longer than what came in: it says more and counts as full. Else prove '..UptoSaid'. A law counts once. -/
mutual
def uptoBulk {H : Type} : DataW H → Nat
  | .lit (.string bytes) => bytes.length + 1
  | .lit _ => 1
  | .nil => 1
  | .ptr d => uptoBulk d + 1
  | .slice elems spare => uptoBulkAll elems + uptoBulkAll spare + 1
  | .agg parts => uptoBulkAll parts + 1
  | .iface _ d => uptoBulk d + 1
  | .map entries => uptoBulkEntries entries + 1
  | .held _ => 1
def uptoBulkAll {H : Type} : List (DataW H) → Nat
  | [] => 0
  | d :: r => uptoBulk d + uptoBulkAll r
def uptoBulkEntries {H : Type} : List (Lit × DataW H) → Nat
  | [] => 0
  | x :: r => uptoBulkEntry x + uptoBulkEntries r
def uptoBulkEntry {H : Type} : Lit × DataW H → Nat
  | (.string bytes, d) => bytes.length + uptoBulk d + 1
  | (_, d) => uptoBulk d + 1
 end
def uptoSmall : (H : Type) → List (DataW H) → Bool := fun _ ds => decide (uptoBulkAll ds ≤ 1048576)
def OpenSpec.upto (s : _root_.Go.ChangeSpec) : _root_.Go.OpenSpec := { _root_.Go.OpenSpec.ofChange s with cond := some uptoSmall }

/-- 'tracerylaw03.FracSums', WHERE WHAT IT READS IS OF BULK AT MOST 1048576: true; the input reads as it did. -/
def fracSumsUptoRow : OpenClaim := { program := "ytaenedjanckaiaagreat", sum := "2c825967174c29e5643e7b08b209138f5961ffcb2d55dfceeda81f5d70e21bf1", func := "tracery/tracerylaw03.FracSums", spec := "fracSums", unfollowed := true, recurses := true, apart := false, narrowed := true }
def FracSumsUptoSaid : Prop := fracSumsUptoRow.holds Tryz.pinned (OpenSpec.upto fracSumsSpec)

/-- 'tracerylaw03.FracQuotients', WHERE WHAT IT READS IS OF BULK AT MOST 1048576: true; the input reads as it did. -/
def fracQuotientsUptoRow : OpenClaim := { program := "ytaenedjanckaiaagreat", sum := "2c825967174c29e5643e7b08b209138f5961ffcb2d55dfceeda81f5d70e21bf1", func := "tracery/tracerylaw03.FracQuotients", spec := "fracQuotients", unfollowed := true, recurses := true, apart := false, narrowed := true }
def FracQuotientsUptoSaid : Prop := fracQuotientsUptoRow.holds Tryz.pinned (OpenSpec.upto fracQuotientsSpec)

/-- 'tracerylaw03.FracSimple', WHERE WHAT IT READS IS OF BULK AT MOST 1048576: true; the input reads as it did. -/
def fracSimpleUptoRow : OpenClaim := { program := "ytaenedjanckaiaagreat", sum := "2c825967174c29e5643e7b08b209138f5961ffcb2d55dfceeda81f5d70e21bf1", func := "tracery/tracerylaw03.FracSimple", spec := "fracSimple", unfollowed := true, recurses := true, apart := false, narrowed := true }
def FracSimpleUptoSaid : Prop := fracSimpleUptoRow.holds Tryz.pinned (OpenSpec.upto fracSimpleSpec)

/-- 'tracerylaw03.FracOne', WHERE WHAT IT READS IS OF BULK AT MOST 1048576: true; the input reads as it did. -/
def fracOneUptoRow : OpenClaim := { program := "ytaenedjanckaiaagreat", sum := "2c825967174c29e5643e7b08b209138f5961ffcb2d55dfceeda81f5d70e21bf1", func := "tracery/tracerylaw03.FracOne", spec := "fracOne", unfollowed := true, recurses := true, apart := false, narrowed := true }
def FracOneUptoSaid : Prop := fracOneUptoRow.holds Tryz.pinned (OpenSpec.upto fracOneSpec)

end Rows
end Go.Proofs.YtaenedjanckaiaaGreat
