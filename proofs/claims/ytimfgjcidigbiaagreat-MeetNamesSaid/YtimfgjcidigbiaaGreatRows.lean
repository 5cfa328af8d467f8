/-
  No cell of these rows narrows 'for every input' (looked for: loops, veiled, ifaces, maps, wideKeys, modest, calm, conditions, laid).
  DERIVED. THE GIVEN ROWS OF THIS SEAT. 9 by the template 'for every input the law returns true; each argument reads behind the call as it read before'; 0 by the template 'total and deterministic' (their statements: YtimfgjcidigbiaaGreatTotals.lean).
  GIVEN WITH THE SEED: the statements are not yours to turn. If you find one false, say at which input.
  Laid BY PROGRAM, IN A SANDBOX (cutbox-rows.mjs): the forced cells as the released guide's own fill.sh prints them over the translation cea8f69d3e02bc7b… (all of the seat's roots in one cut). By AI agents, Wed Nov 11 2026. No macro, syntax, notation, axiom, sorry.
-/
import Derived.Test.YtimfgjcidigbiaaGreatChecked
import GoSem.Claim
import GoSem.ClaimJoined
import GoSem.ClaimMapViews
import Derived.JoinedTies
import Derived.KernelRfl
namespace Go.Proofs.YtimfgjcidigbiaaGreat
/- THE CELL 'sum', in the pinned program and in every row, IS THE sha256 OF THE DUMP (.gsa) THAT YtimfgjcidigbiaaGreatProg.lean LOADS. Nothing in Lean hashes anything: it is a label: what it is worth is what the hold of that sum in a sandbox is worth. -/
noncomputable def Tryz.pinned : Pinned := { name := "ytimfgjcidigbiaagreat", sum := "cea8f69d3e02bc7bcb95510c83240d638e3b143564e6aceb45760c9e04ca7354", checked := Tryz.checked }
namespace Rows
def none {H : Type} : Left H := { results := [], args := [] }

/-- 'tracerylaw10.CrossKept': WHATEVER THE INPUT: true; the input reads as it did. -/
def crossKeptSpec : ChangeSpec := { name := "crossKept", fn := fun _ => fun
  | [d1, d2, d3] => { results := [.lit (.bool true)], args := [d1, d2, d3] }
  | _ => none }
def crossKeptRow : OpenClaim := { program := "ytimfgjcidigbiaagreat", sum := "cea8f69d3e02bc7bcb95510c83240d638e3b143564e6aceb45760c9e04ca7354", func := "tracery/tracerylaw10.CrossKept", spec := "crossKept", apart := false }
def CrossKeptSaid : Prop := crossKeptRow.holds Tryz.pinned (OpenSpec.ofChange crossKeptSpec)

/-- ITS FALSE NEIGHBOUR: 'it returns false'. Refute it at one input. -/
def crossKeptWrong : ChangeSpec := { name := "crossKept", fn := fun _ => fun
  | [d1, d2, d3] => { results := [.lit (.bool false)], args := [d1, d2, d3] }
  | _ => none }
def CrossKeptWrongFalsely : Prop := crossKeptRow.holds Tryz.pinned (OpenSpec.ofChange crossKeptWrong)

/-- 'tracerylaw11.CircBehind': WHATEVER THE INPUT: true; the input reads as it did. -/
def circBehindSpec : ChangeSpec := { name := "circBehind", fn := fun _ => fun
  | [d1, d2, d3] => { results := [.lit (.bool true)], args := [d1, d2, d3] }
  | _ => none }
def circBehindRow : OpenClaim := { program := "ytimfgjcidigbiaagreat", sum := "cea8f69d3e02bc7bcb95510c83240d638e3b143564e6aceb45760c9e04ca7354", func := "tracery/tracerylaw11.CircBehind", spec := "circBehind", inPlace := ["internal/abi.NoEscape", "internal/bytealg.MakeNoZero"], unfollowed := true, recurses := true, apart := false }
def CircBehindSaid : Prop := circBehindRow.holds Tryz.pinned (OpenSpec.ofChange circBehindSpec)

/-- ITS FALSE NEIGHBOUR: 'it returns false'. Refute it at one input. -/
def circBehindWrong : ChangeSpec := { name := "circBehind", fn := fun _ => fun
  | [d1, d2, d3] => { results := [.lit (.bool false)], args := [d1, d2, d3] }
  | _ => none }
def CircBehindWrongFalsely : Prop := circBehindRow.holds Tryz.pinned (OpenSpec.ofChange circBehindWrong)

/-- 'tracerylaw13.MeetPoints': WHATEVER THE INPUT: true; the input reads as it did. -/
def meetPointsSpec : ChangeSpec := { name := "meetPoints", fn := fun _ => fun
  | [d1, d2] => { results := [.lit (.bool true)], args := [d1, d2] }
  | _ => none }
def meetPointsRow : OpenClaim := { program := "ytimfgjcidigbiaagreat", sum := "cea8f69d3e02bc7bcb95510c83240d638e3b143564e6aceb45760c9e04ca7354", func := "tracery/tracerylaw13.MeetPoints", spec := "meetPoints", unfollowed := true, recurses := true, apart := false }
def MeetPointsSaid : Prop := meetPointsRow.holds Tryz.pinned (OpenSpec.ofChange meetPointsSpec)

/-- ITS FALSE NEIGHBOUR: 'it returns false'. Refute it at one input. -/
def meetPointsWrong : ChangeSpec := { name := "meetPoints", fn := fun _ => fun
  | [d1, d2] => { results := [.lit (.bool false)], args := [d1, d2] }
  | _ => none }
def MeetPointsWrongFalsely : Prop := meetPointsRow.holds Tryz.pinned (OpenSpec.ofChange meetPointsWrong)

/-- 'tracerylaw13.MeetNames': WHATEVER THE INPUT: true; the input reads as it did. -/
def meetNamesSpec : ChangeSpec := { name := "meetNames", fn := fun _ => fun
  | [] => { results := [.lit (.bool true)], args := [] }
  | _ => none }
def meetNamesRow : OpenClaim := { program := "ytimfgjcidigbiaagreat", sum := "cea8f69d3e02bc7bcb95510c83240d638e3b143564e6aceb45760c9e04ca7354", func := "tracery/tracerylaw13.MeetNames", spec := "meetNames", unfollowed := true, recurses := true, apart := false }
def MeetNamesSaid : Prop := meetNamesRow.holds Tryz.pinned (OpenSpec.ofChange meetNamesSpec)

/-- ITS FALSE NEIGHBOUR: 'it returns false'. Refute it at one input. -/
def meetNamesWrong : ChangeSpec := { name := "meetNames", fn := fun _ => fun
  | [] => { results := [.lit (.bool false)], args := [] }
  | _ => none }
def MeetNamesWrongFalsely : Prop := meetNamesRow.holds Tryz.pinned (OpenSpec.ofChange meetNamesWrong)

/-- 'tracerylaw13.MeetMixes': WHATEVER THE INPUT: true; the input reads as it did. -/
def meetMixesSpec : ChangeSpec := { name := "meetMixes", fn := fun _ => fun
  | [d1, d2, d3] => { results := [.lit (.bool true)], args := [d1, d2, d3] }
  | _ => none }
def meetMixesRow : OpenClaim := { program := "ytimfgjcidigbiaagreat", sum := "cea8f69d3e02bc7bcb95510c83240d638e3b143564e6aceb45760c9e04ca7354", func := "tracery/tracerylaw13.MeetMixes", spec := "meetMixes", unfollowed := true, recurses := true, apart := false }
def MeetMixesSaid : Prop := meetMixesRow.holds Tryz.pinned (OpenSpec.ofChange meetMixesSpec)

/-- ITS FALSE NEIGHBOUR: 'it returns false'. Refute it at one input. -/
def meetMixesWrong : ChangeSpec := { name := "meetMixes", fn := fun _ => fun
  | [d1, d2, d3] => { results := [.lit (.bool false)], args := [d1, d2, d3] }
  | _ => none }
def MeetMixesWrongFalsely : Prop := meetMixesRow.holds Tryz.pinned (OpenSpec.ofChange meetMixesWrong)

/-- 'tracerylaw13.MeetTwo': WHATEVER THE INPUT: true; the input reads as it did. -/
def meetTwoSpec : ChangeSpec := { name := "meetTwo", fn := fun _ => fun
  | [d1, d2] => { results := [.lit (.bool true)], args := [d1, d2] }
  | _ => none }
def meetTwoRow : OpenClaim := { program := "ytimfgjcidigbiaagreat", sum := "cea8f69d3e02bc7bcb95510c83240d638e3b143564e6aceb45760c9e04ca7354", func := "tracery/tracerylaw13.MeetTwo", spec := "meetTwo", unfollowed := true, recurses := true, apart := false }
def MeetTwoSaid : Prop := meetTwoRow.holds Tryz.pinned (OpenSpec.ofChange meetTwoSpec)

/-- ITS FALSE NEIGHBOUR: 'it returns false'. Refute it at one input. -/
def meetTwoWrong : ChangeSpec := { name := "meetTwo", fn := fun _ => fun
  | [d1, d2] => { results := [.lit (.bool false)], args := [d1, d2] }
  | _ => none }
def MeetTwoWrongFalsely : Prop := meetTwoRow.holds Tryz.pinned (OpenSpec.ofChange meetTwoWrong)

/-- 'tracerylaw13.MeetThree': WHATEVER THE INPUT: true; the input reads as it did. -/
def meetThreeSpec : ChangeSpec := { name := "meetThree", fn := fun _ => fun
  | [d1, d2, d3] => { results := [.lit (.bool true)], args := [d1, d2, d3] }
  | _ => none }
def meetThreeRow : OpenClaim := { program := "ytimfgjcidigbiaagreat", sum := "cea8f69d3e02bc7bcb95510c83240d638e3b143564e6aceb45760c9e04ca7354", func := "tracery/tracerylaw13.MeetThree", spec := "meetThree", unfollowed := true, recurses := true, apart := false }
def MeetThreeSaid : Prop := meetThreeRow.holds Tryz.pinned (OpenSpec.ofChange meetThreeSpec)

/-- ITS FALSE NEIGHBOUR: 'it returns false'. Refute it at one input. -/
def meetThreeWrong : ChangeSpec := { name := "meetThree", fn := fun _ => fun
  | [d1, d2, d3] => { results := [.lit (.bool false)], args := [d1, d2, d3] }
  | _ => none }
def MeetThreeWrongFalsely : Prop := meetThreeRow.holds Tryz.pinned (OpenSpec.ofChange meetThreeWrong)

/-- 'tracerylaw13.MeetOver': WHATEVER THE INPUT: true; the input reads as it did. -/
def meetOverSpec : ChangeSpec := { name := "meetOver", fn := fun _ => fun
  | [d1, d2] => { results := [.lit (.bool true)], args := [d1, d2] }
  | _ => none }
def meetOverRow : OpenClaim := { program := "ytimfgjcidigbiaagreat", sum := "cea8f69d3e02bc7bcb95510c83240d638e3b143564e6aceb45760c9e04ca7354", func := "tracery/tracerylaw13.MeetOver", spec := "meetOver", unfollowed := true, recurses := true, apart := false }
def MeetOverSaid : Prop := meetOverRow.holds Tryz.pinned (OpenSpec.ofChange meetOverSpec)

/-- ITS FALSE NEIGHBOUR: 'it returns false'. Refute it at one input. -/
def meetOverWrong : ChangeSpec := { name := "meetOver", fn := fun _ => fun
  | [d1, d2] => { results := [.lit (.bool false)], args := [d1, d2] }
  | _ => none }
def MeetOverWrongFalsely : Prop := meetOverRow.holds Tryz.pinned (OpenSpec.ofChange meetOverWrong)

/-- 'tracerylaw13.MeetKept': WHATEVER THE INPUT: true; the input reads as it did. -/
def meetKeptSpec : ChangeSpec := { name := "meetKept", fn := fun _ => fun
  | [d1, d2] => { results := [.lit (.bool true)], args := [d1, d2] }
  | _ => none }
def meetKeptRow : OpenClaim := { program := "ytimfgjcidigbiaagreat", sum := "cea8f69d3e02bc7bcb95510c83240d638e3b143564e6aceb45760c9e04ca7354", func := "tracery/tracerylaw13.MeetKept", spec := "meetKept", unfollowed := true, recurses := true, apart := false }
def MeetKeptSaid : Prop := meetKeptRow.holds Tryz.pinned (OpenSpec.ofChange meetKeptSpec)

/-- ITS FALSE NEIGHBOUR: 'it returns false'. Refute it at one input. -/
def meetKeptWrong : ChangeSpec := { name := "meetKept", fn := fun _ => fun
  | [d1, d2] => { results := [.lit (.bool false)], args := [d1, d2] }
  | _ => none }
def MeetKeptWrongFalsely : Prop := meetKeptRow.holds Tryz.pinned (OpenSpec.ofChange meetKeptWrong)

/- THE SECOND FORM. 'bulk': how many values and letters a reading holds, each counted each time it is reached (what is shared counts as often as it is met; a slice's spare places count too). A statement '..UptoSaid' is the law's where the arguments, and the package variables that the reading takes, are together of bulk at most 1048576: NARROWER than '..Said'. Prove '..Said' where nothing that the law and all that it calls make is longer than what came in: it says more and counts as full. Else prove '..UptoSaid'. A law counts once. -/
mutual
def uptoBulk {H : Type} : DataW H → Nat
  | .lit (.string bytes) => bytes.length + 1
  | .lit _ => 1
  | .nil => 1
  | .ptr d => uptoBulk d + 1
  | .slice elems spare => uptoBulkAll elems + uptoBulkAll spare + 1
  | .agg parts => uptoBulkAll parts + 1
  | .iface _ d => uptoBulk d + 1
  | .map entries => uptoBulkEntries entries + 1
  | .held _ => 1
def uptoBulkAll {H : Type} : List (DataW H) → Nat
  | [] => 0
  | d :: r => uptoBulk d + uptoBulkAll r
def uptoBulkEntries {H : Type} : List (Lit × DataW H) → Nat
  | [] => 0
  | x :: r => uptoBulkEntry x + uptoBulkEntries r
def uptoBulkEntry {H : Type} : Lit × DataW H → Nat
  | (.string bytes, d) => bytes.length + uptoBulk d + 1
  | (_, d) => uptoBulk d + 1
 end
def uptoSmall : (H : Type) → List (DataW H) → Bool := fun _ ds => decide (uptoBulkAll ds ≤ 1048576)
def OpenSpec.upto (s : _root_.Go.ChangeSpec) : _root_.Go.OpenSpec := { _root_.Go.OpenSpec.ofChange s with cond := some uptoSmall }

/-- 'tracerylaw10.CrossKept', WHERE WHAT IT READS IS OF BULK AT MOST 1048576: true; the input reads as it did. -/
def crossKeptUptoRow : OpenClaim := { program := "ytimfgjcidigbiaagreat", sum := "cea8f69d3e02bc7bcb95510c83240d638e3b143564e6aceb45760c9e04ca7354", func := "tracery/tracerylaw10.CrossKept", spec := "crossKept", apart := false, narrowed := true }
def CrossKeptUptoSaid : Prop := crossKeptUptoRow.holds Tryz.pinned (OpenSpec.upto crossKeptSpec)

/-- 'tracerylaw11.CircBehind', WHERE WHAT IT READS IS OF BULK AT MOST 1048576: true; the input reads as it did. -/
def circBehindUptoRow : OpenClaim := { program := "ytimfgjcidigbiaagreat", sum := "cea8f69d3e02bc7bcb95510c83240d638e3b143564e6aceb45760c9e04ca7354", func := "tracery/tracerylaw11.CircBehind", spec := "circBehind", inPlace := ["internal/abi.NoEscape", "internal/bytealg.MakeNoZero"], unfollowed := true, recurses := true, apart := false, narrowed := true }
def CircBehindUptoSaid : Prop := circBehindUptoRow.holds Tryz.pinned (OpenSpec.upto circBehindSpec)

/-- 'tracerylaw13.MeetPoints', WHERE WHAT IT READS IS OF BULK AT MOST 1048576: true; the input reads as it did. -/
def meetPointsUptoRow : OpenClaim := { program := "ytimfgjcidigbiaagreat", sum := "cea8f69d3e02bc7bcb95510c83240d638e3b143564e6aceb45760c9e04ca7354", func := "tracery/tracerylaw13.MeetPoints", spec := "meetPoints", unfollowed := true, recurses := true, apart := false, narrowed := true }
def MeetPointsUptoSaid : Prop := meetPointsUptoRow.holds Tryz.pinned (OpenSpec.upto meetPointsSpec)

/-- 'tracerylaw13.MeetNames', WHERE WHAT IT READS IS OF BULK AT MOST 1048576: true; the input reads as it did. -/
def meetNamesUptoRow : OpenClaim := { program := "ytimfgjcidigbiaagreat", sum := "cea8f69d3e02bc7bcb95510c83240d638e3b143564e6aceb45760c9e04ca7354", func := "tracery/tracerylaw13.MeetNames", spec := "meetNames", unfollowed := true, recurses := true, apart := false, narrowed := true }
def MeetNamesUptoSaid : Prop := meetNamesUptoRow.holds Tryz.pinned (OpenSpec.upto meetNamesSpec)

/-- 'tracerylaw13.MeetMixes', WHERE WHAT IT READS IS OF BULK AT MOST 1048576: true; the input reads as it did. -/
def meetMixesUptoRow : OpenClaim := { program := "ytimfgjcidigbiaagreat", sum := "cea8f69d3e02bc7bcb95510c83240d638e3b143564e6aceb45760c9e04ca7354", func := "tracery/tracerylaw13.MeetMixes", spec := "meetMixes", unfollowed := true, recurses := true, apart := false, narrowed := true }
def MeetMixesUptoSaid : Prop := meetMixesUptoRow.holds Tryz.pinned (OpenSpec.upto meetMixesSpec)

/-- 'tracerylaw13.MeetTwo', WHERE WHAT IT READS IS OF BULK AT MOST 1048576: true; the input reads as it did. -/
def meetTwoUptoRow : OpenClaim := { program := "ytimfgjcidigbiaagreat", sum := "cea8f69d3e02bc7bcb95510c83240d638e3b143564e6aceb45760c9e04ca7354", func := "tracery/tracerylaw13.MeetTwo", spec := "meetTwo", unfollowed := true, recurses := true, apart := false, narrowed := true }
def MeetTwoUptoSaid : Prop := meetTwoUptoRow.holds Tryz.pinned (OpenSpec.upto meetTwoSpec)

/-- 'tracerylaw13.MeetThree', WHERE WHAT IT READS IS OF BULK AT MOST 1048576: true; the input reads as it did. -/
def meetThreeUptoRow : OpenClaim := { program := "ytimfgjcidigbiaagreat", sum := "cea8f69d3e02bc7bcb95510c83240d638e3b143564e6aceb45760c9e04ca7354", func := "tracery/tracerylaw13.MeetThree", spec := "meetThree", unfollowed := true, recurses := true, apart := false, narrowed := true }
def MeetThreeUptoSaid : Prop := meetThreeUptoRow.holds Tryz.pinned (OpenSpec.upto meetThreeSpec)

/-- 'tracerylaw13.MeetOver', WHERE WHAT IT READS IS OF BULK AT MOST 1048576: true; the input reads as it did. -/
def meetOverUptoRow : OpenClaim := { program := "ytimfgjcidigbiaagreat", sum := "cea8f69d3e02bc7bcb95510c83240d638e3b143564e6aceb45760c9e04ca7354", func := "tracery/tracerylaw13.MeetOver", spec := "meetOver", unfollowed := true, recurses := true, apart := false, narrowed := true }
def MeetOverUptoSaid : Prop := meetOverUptoRow.holds Tryz.pinned (OpenSpec.upto meetOverSpec)

/-- 'tracerylaw13.MeetKept', WHERE WHAT IT READS IS OF BULK AT MOST 1048576: true; the input reads as it did. -/
def meetKeptUptoRow : OpenClaim := { program := "ytimfgjcidigbiaagreat", sum := "cea8f69d3e02bc7bcb95510c83240d638e3b143564e6aceb45760c9e04ca7354", func := "tracery/tracerylaw13.MeetKept", spec := "meetKept", unfollowed := true, recurses := true, apart := false, narrowed := true }
def MeetKeptUptoSaid : Prop := meetKeptUptoRow.holds Tryz.pinned (OpenSpec.upto meetKeptSpec)

end Rows
end Go.Proofs.YtimfgjcidigbiaaGreat
