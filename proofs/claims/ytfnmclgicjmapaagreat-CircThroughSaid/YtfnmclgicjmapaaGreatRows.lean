/-
  No cell of these rows narrows 'for every input' (looked for: loops, veiled, ifaces, maps, wideKeys, modest, calm, conditions, laid).
  DERIVED. THE GIVEN ROWS OF THIS SEAT. 12 by the template 'for every input the law returns true; each argument reads behind the call as it read before'; 0 by the template 'total and deterministic' (their statements: YtfnmclgicjmapaaGreatTotals.lean).
  GIVEN WITH THE SEED: the statements are not yours to turn. If you find one false, say at which input.
  Laid BY PROGRAM, IN A SANDBOX (cutbox-rows.mjs): the forced cells as the released guide's own fill.sh prints them over the translation 35f755db7c41103e… (all of the seat's roots in one cut). By AI agents, Wed Nov 11 2026. No macro, syntax, notation, axiom, sorry.
-/
import Derived.Test.YtfnmclgicjmapaaGreatChecked
import GoSem.Claim
import GoSem.ClaimJoined
import GoSem.ClaimMapViews
import Derived.JoinedTies
import Derived.KernelRfl
namespace Go.Proofs.YtfnmclgicjmapaaGreat
/- THE CELL 'sum', in the pinned program and in every row, IS THE sha256 OF THE DUMP (.gsa) THAT YtfnmclgicjmapaaGreatProg.lean LOADS. Nothing in Lean hashes anything: it is a label: what it is worth is what the hold of that sum in a sandbox is worth. -/
noncomputable def Tryz.pinned : Pinned := { name := "ytfnmclgicjmapaagreat", sum := "35f755db7c41103e71c3e0cb247f63bbfa795fa1a6e8b5059b85c514f3d85b94", checked := Tryz.checked }
namespace Rows
def none {H : Type} : Left H := { results := [], args := [] }

/-- 'tracerylaw03.FracOne': WHATEVER THE INPUT: true; the input reads as it did. -/
def fracOneSpec : ChangeSpec := { name := "fracOne", fn := fun _ => fun
  | [d1, d2, d3] => { results := [.lit (.bool true)], args := [d1, d2, d3] }
  | _ => none }
def fracOneRow : OpenClaim := { program := "ytfnmclgicjmapaagreat", sum := "35f755db7c41103e71c3e0cb247f63bbfa795fa1a6e8b5059b85c514f3d85b94", func := "tracery/tracerylaw03.FracOne", spec := "fracOne", unfollowed := true, recurses := true, plainKeys := false, apart := false }
def FracOneSaid : Prop := fracOneRow.holds Tryz.pinned (OpenSpec.ofChange fracOneSpec)

/-- ITS FALSE NEIGHBOUR: 'it returns false'. Refute it at one input. -/
def fracOneWrong : ChangeSpec := { name := "fracOne", fn := fun _ => fun
  | [d1, d2, d3] => { results := [.lit (.bool false)], args := [d1, d2, d3] }
  | _ => none }
def FracOneWrongFalsely : Prop := fracOneRow.holds Tryz.pinned (OpenSpec.ofChange fracOneWrong)

/-- 'tracerylaw07.SphereTwo': WHATEVER THE INPUT: true; the input reads as it did. -/
def sphereTwoSpec : ChangeSpec := { name := "sphereTwo", fn := fun _ => fun
  | [d1, d2] => { results := [.lit (.bool true)], args := [d1, d2] }
  | _ => none }
def sphereTwoRow : OpenClaim := { program := "ytfnmclgicjmapaagreat", sum := "35f755db7c41103e71c3e0cb247f63bbfa795fa1a6e8b5059b85c514f3d85b94", func := "tracery/tracerylaw07.SphereTwo", spec := "sphereTwo", unfollowed := true, recurses := true, plainKeys := false, apart := false }
def SphereTwoSaid : Prop := sphereTwoRow.holds Tryz.pinned (OpenSpec.ofChange sphereTwoSpec)

/-- ITS FALSE NEIGHBOUR: 'it returns false'. Refute it at one input. -/
def sphereTwoWrong : ChangeSpec := { name := "sphereTwo", fn := fun _ => fun
  | [d1, d2] => { results := [.lit (.bool false)], args := [d1, d2] }
  | _ => none }
def SphereTwoWrongFalsely : Prop := sphereTwoRow.holds Tryz.pinned (OpenSpec.ofChange sphereTwoWrong)

/-- 'tracerylaw08.MobRow': WHATEVER THE INPUT: true; the input reads as it did. -/
def mobRowSpec : ChangeSpec := { name := "mobRow", fn := fun _ => fun
  | [d] => { results := [.lit (.bool true)], args := [d] }
  | _ => none }
def mobRowRow : OpenClaim := { program := "ytfnmclgicjmapaagreat", sum := "35f755db7c41103e71c3e0cb247f63bbfa795fa1a6e8b5059b85c514f3d85b94", func := "tracery/tracerylaw08.MobRow", spec := "mobRow", unfollowed := true, recurses := true, plainKeys := false, apart := false }
def MobRowSaid : Prop := mobRowRow.holds Tryz.pinned (OpenSpec.ofChange mobRowSpec)

/-- ITS FALSE NEIGHBOUR: 'it returns false'. Refute it at one input. -/
def mobRowWrong : ChangeSpec := { name := "mobRow", fn := fun _ => fun
  | [d] => { results := [.lit (.bool false)], args := [d] }
  | _ => none }
def MobRowWrongFalsely : Prop := mobRowRow.holds Tryz.pinned (OpenSpec.ofChange mobRowWrong)

/-- 'tracerylaw04.GaussPowers': WHATEVER THE INPUT: true; the input reads as it did. -/
def gaussPowersSpec : ChangeSpec := { name := "gaussPowers", fn := fun _ => fun
  | [d1, d2] => { results := [.lit (.bool true)], args := [d1, d2] }
  | _ => none }
def gaussPowersRow : OpenClaim := { program := "ytfnmclgicjmapaagreat", sum := "35f755db7c41103e71c3e0cb247f63bbfa795fa1a6e8b5059b85c514f3d85b94", func := "tracery/tracerylaw04.GaussPowers", spec := "gaussPowers", unfollowed := true, recurses := true, plainKeys := false, apart := false }
def GaussPowersSaid : Prop := gaussPowersRow.holds Tryz.pinned (OpenSpec.ofChange gaussPowersSpec)

/-- ITS FALSE NEIGHBOUR: 'it returns false'. Refute it at one input. -/
def gaussPowersWrong : ChangeSpec := { name := "gaussPowers", fn := fun _ => fun
  | [d1, d2] => { results := [.lit (.bool false)], args := [d1, d2] }
  | _ => none }
def GaussPowersWrongFalsely : Prop := gaussPowersRow.holds Tryz.pinned (OpenSpec.ofChange gaussPowersWrong)

/-- 'tracerylaw07.SphereOne': WHATEVER THE INPUT: true; the input reads as it did. -/
def sphereOneSpec : ChangeSpec := { name := "sphereOne", fn := fun _ => fun
  | [d] => { results := [.lit (.bool true)], args := [d] }
  | _ => none }
def sphereOneRow : OpenClaim := { program := "ytfnmclgicjmapaagreat", sum := "35f755db7c41103e71c3e0cb247f63bbfa795fa1a6e8b5059b85c514f3d85b94", func := "tracery/tracerylaw07.SphereOne", spec := "sphereOne", unfollowed := true, recurses := true, plainKeys := false, apart := false }
def SphereOneSaid : Prop := sphereOneRow.holds Tryz.pinned (OpenSpec.ofChange sphereOneSpec)

/-- ITS FALSE NEIGHBOUR: 'it returns false'. Refute it at one input. -/
def sphereOneWrong : ChangeSpec := { name := "sphereOne", fn := fun _ => fun
  | [d] => { results := [.lit (.bool false)], args := [d] }
  | _ => none }
def SphereOneWrongFalsely : Prop := sphereOneRow.holds Tryz.pinned (OpenSpec.ofChange sphereOneWrong)

/-- 'tracerylaw04.GaussLists': WHATEVER THE INPUT: true; the input reads as it did. -/
def gaussListsSpec : ChangeSpec := { name := "gaussLists", fn := fun _ => fun
  | [d] => { results := [.lit (.bool true)], args := [d] }
  | _ => none }
def gaussListsRow : OpenClaim := { program := "ytfnmclgicjmapaagreat", sum := "35f755db7c41103e71c3e0cb247f63bbfa795fa1a6e8b5059b85c514f3d85b94", func := "tracery/tracerylaw04.GaussLists", spec := "gaussLists", unfollowed := true, recurses := true, plainKeys := false, apart := false }
def GaussListsSaid : Prop := gaussListsRow.holds Tryz.pinned (OpenSpec.ofChange gaussListsSpec)

/-- ITS FALSE NEIGHBOUR: 'it returns false'. Refute it at one input. -/
def gaussListsWrong : ChangeSpec := { name := "gaussLists", fn := fun _ => fun
  | [d] => { results := [.lit (.bool false)], args := [d] }
  | _ => none }
def GaussListsWrongFalsely : Prop := gaussListsRow.holds Tryz.pinned (OpenSpec.ofChange gaussListsWrong)

/-- 'tracerylaw04.GaussField': WHATEVER THE INPUT: true; the input reads as it did. -/
def gaussFieldSpec : ChangeSpec := { name := "gaussField", fn := fun _ => fun
  | [d1, d2, d3] => { results := [.lit (.bool true)], args := [d1, d2, d3] }
  | _ => none }
def gaussFieldRow : OpenClaim := { program := "ytfnmclgicjmapaagreat", sum := "35f755db7c41103e71c3e0cb247f63bbfa795fa1a6e8b5059b85c514f3d85b94", func := "tracery/tracerylaw04.GaussField", spec := "gaussField", unfollowed := true, recurses := true, plainKeys := false, apart := false }
def GaussFieldSaid : Prop := gaussFieldRow.holds Tryz.pinned (OpenSpec.ofChange gaussFieldSpec)

/-- ITS FALSE NEIGHBOUR: 'it returns false'. Refute it at one input. -/
def gaussFieldWrong : ChangeSpec := { name := "gaussField", fn := fun _ => fun
  | [d1, d2, d3] => { results := [.lit (.bool false)], args := [d1, d2, d3] }
  | _ => none }
def GaussFieldWrongFalsely : Prop := gaussFieldRow.holds Tryz.pinned (OpenSpec.ofChange gaussFieldWrong)

/-- 'tracerylaw10.CrossKept': WHATEVER THE INPUT: true; the input reads as it did. -/
def crossKeptSpec : ChangeSpec := { name := "crossKept", fn := fun _ => fun
  | [d1, d2, d3] => { results := [.lit (.bool true)], args := [d1, d2, d3] }
  | _ => none }
def crossKeptRow : OpenClaim := { program := "ytfnmclgicjmapaagreat", sum := "35f755db7c41103e71c3e0cb247f63bbfa795fa1a6e8b5059b85c514f3d85b94", func := "tracery/tracerylaw10.CrossKept", spec := "crossKept", plainKeys := false, apart := false }
def CrossKeptSaid : Prop := crossKeptRow.holds Tryz.pinned (OpenSpec.ofChange crossKeptSpec)

/-- ITS FALSE NEIGHBOUR: 'it returns false'. Refute it at one input. -/
def crossKeptWrong : ChangeSpec := { name := "crossKept", fn := fun _ => fun
  | [d1, d2, d3] => { results := [.lit (.bool false)], args := [d1, d2, d3] }
  | _ => none }
def CrossKeptWrongFalsely : Prop := crossKeptRow.holds Tryz.pinned (OpenSpec.ofChange crossKeptWrong)

/-- 'tracerylaw08.MobAt': WHATEVER THE INPUT: true; the input reads as it did. -/
def mobAtSpec : ChangeSpec := { name := "mobAt", fn := fun _ => fun
  | [d1, d2] => { results := [.lit (.bool true)], args := [d1, d2] }
  | _ => none }
def mobAtRow : OpenClaim := { program := "ytfnmclgicjmapaagreat", sum := "35f755db7c41103e71c3e0cb247f63bbfa795fa1a6e8b5059b85c514f3d85b94", func := "tracery/tracerylaw08.MobAt", spec := "mobAt", unfollowed := true, recurses := true, plainKeys := false, apart := false }
def MobAtSaid : Prop := mobAtRow.holds Tryz.pinned (OpenSpec.ofChange mobAtSpec)

/-- ITS FALSE NEIGHBOUR: 'it returns false'. Refute it at one input. -/
def mobAtWrong : ChangeSpec := { name := "mobAt", fn := fun _ => fun
  | [d1, d2] => { results := [.lit (.bool false)], args := [d1, d2] }
  | _ => none }
def MobAtWrongFalsely : Prop := mobAtRow.holds Tryz.pinned (OpenSpec.ofChange mobAtWrong)

/-- 'tracerylaw11.CircThrough': WHATEVER THE INPUT: true; the input reads as it did. -/
def circThroughSpec : ChangeSpec := { name := "circThrough", fn := fun _ => fun
  | [d] => { results := [.lit (.bool true)], args := [d] }
  | _ => none }
def circThroughRow : OpenClaim := { program := "ytfnmclgicjmapaagreat", sum := "35f755db7c41103e71c3e0cb247f63bbfa795fa1a6e8b5059b85c514f3d85b94", func := "tracery/tracerylaw11.CircThrough", spec := "circThrough", inPlace := ["internal/abi.NoEscape", "internal/bytealg.MakeNoZero"], unfollowed := true, recurses := true, plainKeys := false, apart := false }
def CircThroughSaid : Prop := circThroughRow.holds Tryz.pinned (OpenSpec.ofChange circThroughSpec)

/-- ITS FALSE NEIGHBOUR: 'it returns false'. Refute it at one input. -/
def circThroughWrong : ChangeSpec := { name := "circThrough", fn := fun _ => fun
  | [d] => { results := [.lit (.bool false)], args := [d] }
  | _ => none }
def CircThroughWrongFalsely : Prop := circThroughRow.holds Tryz.pinned (OpenSpec.ofChange circThroughWrong)

/-- 'tracerylaw11.CircMakes': WHATEVER THE INPUT: true; the input reads as it did. -/
def circMakesSpec : ChangeSpec := { name := "circMakes", fn := fun _ => fun
  | [d] => { results := [.lit (.bool true)], args := [d] }
  | _ => none }
def circMakesRow : OpenClaim := { program := "ytfnmclgicjmapaagreat", sum := "35f755db7c41103e71c3e0cb247f63bbfa795fa1a6e8b5059b85c514f3d85b94", func := "tracery/tracerylaw11.CircMakes", spec := "circMakes", inPlace := ["internal/abi.NoEscape", "internal/bytealg.MakeNoZero"], unfollowed := true, recurses := true, plainKeys := false, apart := false }
def CircMakesSaid : Prop := circMakesRow.holds Tryz.pinned (OpenSpec.ofChange circMakesSpec)

/-- ITS FALSE NEIGHBOUR: 'it returns false'. Refute it at one input. -/
def circMakesWrong : ChangeSpec := { name := "circMakes", fn := fun _ => fun
  | [d] => { results := [.lit (.bool false)], args := [d] }
  | _ => none }
def CircMakesWrongFalsely : Prop := circMakesRow.holds Tryz.pinned (OpenSpec.ofChange circMakesWrong)

/-- 'tracerylaw11.CircTells': WHATEVER THE INPUT: true; the input reads as it did. -/
def circTellsSpec : ChangeSpec := { name := "circTells", fn := fun _ => fun
  | [d1, d2, d3] => { results := [.lit (.bool true)], args := [d1, d2, d3] }
  | _ => none }
def circTellsRow : OpenClaim := { program := "ytfnmclgicjmapaagreat", sum := "35f755db7c41103e71c3e0cb247f63bbfa795fa1a6e8b5059b85c514f3d85b94", func := "tracery/tracerylaw11.CircTells", spec := "circTells", inPlace := ["internal/abi.NoEscape", "internal/bytealg.MakeNoZero"], unfollowed := true, recurses := true, plainKeys := false, apart := false }
def CircTellsSaid : Prop := circTellsRow.holds Tryz.pinned (OpenSpec.ofChange circTellsSpec)

/-- ITS FALSE NEIGHBOUR: 'it returns false'. Refute it at one input. -/
def circTellsWrong : ChangeSpec := { name := "circTells", fn := fun _ => fun
  | [d1, d2, d3] => { results := [.lit (.bool false)], args := [d1, d2, d3] }
  | _ => none }
def CircTellsWrongFalsely : Prop := circTellsRow.holds Tryz.pinned (OpenSpec.ofChange circTellsWrong)

/- THE SECOND FORM. 'bulk': how many values and letters a reading holds, each counted each time it is reached (what is shared counts as often as it is met; a slice's spare places count too). A statement '..UptoSaid' is the law's where the arguments, and the package variables that the reading takes, are together of bulk at most 1048576: NARROWER than '..Said'. Prove '..Said' where nothing that the law and all that it calls make is longer than what came in: it says more and counts as full. Else prove '..UptoSaid'. A law counts once. -/
mutual
def uptoBulk {H : Type} : DataW H → Nat
  | .lit (.string bytes) => bytes.length + 1
  | .lit _ => 1
  | .nil => 1
  | .ptr d => uptoBulk d + 1
  | .slice elems spare => uptoBulkAll elems + uptoBulkAll spare + 1
  | .agg parts => uptoBulkAll parts + 1
  | .iface _ d => uptoBulk d + 1
  | .map entries => uptoBulkEntries entries + 1
  | .held _ => 1
def uptoBulkAll {H : Type} : List (DataW H) → Nat
  | [] => 0
  | d :: r => uptoBulk d + uptoBulkAll r
def uptoBulkEntries {H : Type} : List (Lit × DataW H) → Nat
  | [] => 0
  | x :: r => uptoBulkEntry x + uptoBulkEntries r
def uptoBulkEntry {H : Type} : Lit × DataW H → Nat
  | (.string bytes, d) => bytes.length + uptoBulk d + 1
  | (_, d) => uptoBulk d + 1
 end
def uptoSmall : (H : Type) → List (DataW H) → Bool := fun _ ds => decide (uptoBulkAll ds ≤ 1048576)
def OpenSpec.upto (s : _root_.Go.ChangeSpec) : _root_.Go.OpenSpec := { _root_.Go.OpenSpec.ofChange s with cond := some uptoSmall }

/-- 'tracerylaw03.FracOne', WHERE WHAT IT READS IS OF BULK AT MOST 1048576: true; the input reads as it did. -/
def fracOneUptoRow : OpenClaim := { program := "ytfnmclgicjmapaagreat", sum := "35f755db7c41103e71c3e0cb247f63bbfa795fa1a6e8b5059b85c514f3d85b94", func := "tracery/tracerylaw03.FracOne", spec := "fracOne", unfollowed := true, recurses := true, plainKeys := false, apart := false, narrowed := true }
def FracOneUptoSaid : Prop := fracOneUptoRow.holds Tryz.pinned (OpenSpec.upto fracOneSpec)

/-- 'tracerylaw07.SphereTwo', WHERE WHAT IT READS IS OF BULK AT MOST 1048576: true; the input reads as it did. -/
def sphereTwoUptoRow : OpenClaim := { program := "ytfnmclgicjmapaagreat", sum := "35f755db7c41103e71c3e0cb247f63bbfa795fa1a6e8b5059b85c514f3d85b94", func := "tracery/tracerylaw07.SphereTwo", spec := "sphereTwo", unfollowed := true, recurses := true, plainKeys := false, apart := false, narrowed := true }
def SphereTwoUptoSaid : Prop := sphereTwoUptoRow.holds Tryz.pinned (OpenSpec.upto sphereTwoSpec)

/-- 'tracerylaw08.MobRow', WHERE WHAT IT READS IS OF BULK AT MOST 1048576: true; the input reads as it did. -/
def mobRowUptoRow : OpenClaim := { program := "ytfnmclgicjmapaagreat", sum := "35f755db7c41103e71c3e0cb247f63bbfa795fa1a6e8b5059b85c514f3d85b94", func := "tracery/tracerylaw08.MobRow", spec := "mobRow", unfollowed := true, recurses := true, plainKeys := false, apart := false, narrowed := true }
def MobRowUptoSaid : Prop := mobRowUptoRow.holds Tryz.pinned (OpenSpec.upto mobRowSpec)

/-- 'tracerylaw04.GaussPowers', WHERE WHAT IT READS IS OF BULK AT MOST 1048576: true; the input reads as it did. -/
def gaussPowersUptoRow : OpenClaim := { program := "ytfnmclgicjmapaagreat", sum := "35f755db7c41103e71c3e0cb247f63bbfa795fa1a6e8b5059b85c514f3d85b94", func := "tracery/tracerylaw04.GaussPowers", spec := "gaussPowers", unfollowed := true, recurses := true, plainKeys := false, apart := false, narrowed := true }
def GaussPowersUptoSaid : Prop := gaussPowersUptoRow.holds Tryz.pinned (OpenSpec.upto gaussPowersSpec)

/-- 'tracerylaw07.SphereOne', WHERE WHAT IT READS IS OF BULK AT MOST 1048576: true; the input reads as it did. -/
def sphereOneUptoRow : OpenClaim := { program := "ytfnmclgicjmapaagreat", sum := "35f755db7c41103e71c3e0cb247f63bbfa795fa1a6e8b5059b85c514f3d85b94", func := "tracery/tracerylaw07.SphereOne", spec := "sphereOne", unfollowed := true, recurses := true, plainKeys := false, apart := false, narrowed := true }
def SphereOneUptoSaid : Prop := sphereOneUptoRow.holds Tryz.pinned (OpenSpec.upto sphereOneSpec)

/-- 'tracerylaw04.GaussLists', WHERE WHAT IT READS IS OF BULK AT MOST 1048576: true; the input reads as it did. -/
def gaussListsUptoRow : OpenClaim := { program := "ytfnmclgicjmapaagreat", sum := "35f755db7c41103e71c3e0cb247f63bbfa795fa1a6e8b5059b85c514f3d85b94", func := "tracery/tracerylaw04.GaussLists", spec := "gaussLists", unfollowed := true, recurses := true, plainKeys := false, apart := false, narrowed := true }
def GaussListsUptoSaid : Prop := gaussListsUptoRow.holds Tryz.pinned (OpenSpec.upto gaussListsSpec)

/-- 'tracerylaw04.GaussField', WHERE WHAT IT READS IS OF BULK AT MOST 1048576: true; the input reads as it did. -/
def gaussFieldUptoRow : OpenClaim := { program := "ytfnmclgicjmapaagreat", sum := "35f755db7c41103e71c3e0cb247f63bbfa795fa1a6e8b5059b85c514f3d85b94", func := "tracery/tracerylaw04.GaussField", spec := "gaussField", unfollowed := true, recurses := true, plainKeys := false, apart := false, narrowed := true }
def GaussFieldUptoSaid : Prop := gaussFieldUptoRow.holds Tryz.pinned (OpenSpec.upto gaussFieldSpec)

/-- 'tracerylaw10.CrossKept', WHERE WHAT IT READS IS OF BULK AT MOST 1048576: true; the input reads as it did. -/
def crossKeptUptoRow : OpenClaim := { program := "ytfnmclgicjmapaagreat", sum := "35f755db7c41103e71c3e0cb247f63bbfa795fa1a6e8b5059b85c514f3d85b94", func := "tracery/tracerylaw10.CrossKept", spec := "crossKept", plainKeys := false, apart := false, narrowed := true }
def CrossKeptUptoSaid : Prop := crossKeptUptoRow.holds Tryz.pinned (OpenSpec.upto crossKeptSpec)

/-- 'tracerylaw08.MobAt', WHERE WHAT IT READS IS OF BULK AT MOST 1048576: true; the input reads as it did. -/
def mobAtUptoRow : OpenClaim := { program := "ytfnmclgicjmapaagreat", sum := "35f755db7c41103e71c3e0cb247f63bbfa795fa1a6e8b5059b85c514f3d85b94", func := "tracery/tracerylaw08.MobAt", spec := "mobAt", unfollowed := true, recurses := true, plainKeys := false, apart := false, narrowed := true }
def MobAtUptoSaid : Prop := mobAtUptoRow.holds Tryz.pinned (OpenSpec.upto mobAtSpec)

/-- 'tracerylaw11.CircThrough', WHERE WHAT IT READS IS OF BULK AT MOST 1048576: true; the input reads as it did. -/
def circThroughUptoRow : OpenClaim := { program := "ytfnmclgicjmapaagreat", sum := "35f755db7c41103e71c3e0cb247f63bbfa795fa1a6e8b5059b85c514f3d85b94", func := "tracery/tracerylaw11.CircThrough", spec := "circThrough", inPlace := ["internal/abi.NoEscape", "internal/bytealg.MakeNoZero"], unfollowed := true, recurses := true, plainKeys := false, apart := false, narrowed := true }
def CircThroughUptoSaid : Prop := circThroughUptoRow.holds Tryz.pinned (OpenSpec.upto circThroughSpec)

/-- 'tracerylaw11.CircMakes', WHERE WHAT IT READS IS OF BULK AT MOST 1048576: true; the input reads as it did. -/
def circMakesUptoRow : OpenClaim := { program := "ytfnmclgicjmapaagreat", sum := "35f755db7c41103e71c3e0cb247f63bbfa795fa1a6e8b5059b85c514f3d85b94", func := "tracery/tracerylaw11.CircMakes", spec := "circMakes", inPlace := ["internal/abi.NoEscape", "internal/bytealg.MakeNoZero"], unfollowed := true, recurses := true, plainKeys := false, apart := false, narrowed := true }
def CircMakesUptoSaid : Prop := circMakesUptoRow.holds Tryz.pinned (OpenSpec.upto circMakesSpec)

/-- 'tracerylaw11.CircTells', WHERE WHAT IT READS IS OF BULK AT MOST 1048576: true; the input reads as it did. -/
def circTellsUptoRow : OpenClaim := { program := "ytfnmclgicjmapaagreat", sum := "35f755db7c41103e71c3e0cb247f63bbfa795fa1a6e8b5059b85c514f3d85b94", func := "tracery/tracerylaw11.CircTells", spec := "circTells", inPlace := ["internal/abi.NoEscape", "internal/bytealg.MakeNoZero"], unfollowed := true, recurses := true, plainKeys := false, apart := false, narrowed := true }
def CircTellsUptoSaid : Prop := circTellsUptoRow.holds Tryz.pinned (OpenSpec.upto circTellsSpec)

end Rows
end Go.Proofs.YtfnmclgicjmapaaGreat
