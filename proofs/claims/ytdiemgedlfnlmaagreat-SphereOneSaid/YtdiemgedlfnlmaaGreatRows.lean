/-
  No cell of these rows narrows 'for every input' (looked for: loops, veiled, ifaces, maps, wideKeys, modest, calm, conditions, laid).
  DERIVED. THE GIVEN ROWS OF THIS SEAT. 11 by the template 'for every input the law returns true; each argument reads behind the call as it read before'; 0 by the template 'total and deterministic' (their statements: YtdiemgedlfnlmaaGreatTotals.lean).
  GIVEN WITH THE SEED: the statements are not yours to turn. If you find one false, say at which input.
  Laid BY PROGRAM, IN A SANDBOX (cutbox-rows.mjs): the forced cells as the released guide's own fill.sh prints them over the translation e3fb546d0c9b1959… (all of the seat's roots in one cut). By AI agents, Wed Nov 11 2026. No macro, syntax, notation, axiom, sorry.
-/
import Derived.Test.YtdiemgedlfnlmaaGreatChecked
import GoSem.Claim
import GoSem.ClaimJoined
import GoSem.ClaimMapViews
import Derived.JoinedTies
import Derived.KernelRfl
namespace Go.Proofs.YtdiemgedlfnlmaaGreat
/- THE CELL 'sum', in the pinned program and in every row, IS THE sha256 OF THE DUMP (.gsa) THAT YtdiemgedlfnlmaaGreatProg.lean LOADS. Nothing in Lean hashes anything: it is a label: what it is worth is what the hold of that sum in a sandbox is worth. -/
noncomputable def Tryz.pinned : Pinned := { name := "ytdiemgedlfnlmaagreat", sum := "e3fb546d0c9b1959b59f547b6445e30d764e65175ded65063a0108cef6991a24", checked := Tryz.checked }
namespace Rows
def none {H : Type} : Left H := { results := [], args := [] }

/-- 'tracerylaw03.FracSimple': WHATEVER THE INPUT: true; the input reads as it did. -/
def fracSimpleSpec : ChangeSpec := { name := "fracSimple", fn := fun _ => fun
  | [d1, d2] => { results := [.lit (.bool true)], args := [d1, d2] }
  | _ => none }
def fracSimpleRow : OpenClaim := { program := "ytdiemgedlfnlmaagreat", sum := "e3fb546d0c9b1959b59f547b6445e30d764e65175ded65063a0108cef6991a24", func := "tracery/tracerylaw03.FracSimple", spec := "fracSimple", unfollowed := true, recurses := true, plainKeys := false, apart := false }
def FracSimpleSaid : Prop := fracSimpleRow.holds Tryz.pinned (OpenSpec.ofChange fracSimpleSpec)

/-- ITS FALSE NEIGHBOUR: 'it returns false'. Refute it at one input. -/
def fracSimpleWrong : ChangeSpec := { name := "fracSimple", fn := fun _ => fun
  | [d1, d2] => { results := [.lit (.bool false)], args := [d1, d2] }
  | _ => none }
def FracSimpleWrongFalsely : Prop := fracSimpleRow.holds Tryz.pinned (OpenSpec.ofChange fracSimpleWrong)

/-- 'tracerylaw07.SphereTwo': WHATEVER THE INPUT: true; the input reads as it did. -/
def sphereTwoSpec : ChangeSpec := { name := "sphereTwo", fn := fun _ => fun
  | [d1, d2] => { results := [.lit (.bool true)], args := [d1, d2] }
  | _ => none }
def sphereTwoRow : OpenClaim := { program := "ytdiemgedlfnlmaagreat", sum := "e3fb546d0c9b1959b59f547b6445e30d764e65175ded65063a0108cef6991a24", func := "tracery/tracerylaw07.SphereTwo", spec := "sphereTwo", unfollowed := true, recurses := true, plainKeys := false, apart := false }
def SphereTwoSaid : Prop := sphereTwoRow.holds Tryz.pinned (OpenSpec.ofChange sphereTwoSpec)

/-- ITS FALSE NEIGHBOUR: 'it returns false'. Refute it at one input. -/
def sphereTwoWrong : ChangeSpec := { name := "sphereTwo", fn := fun _ => fun
  | [d1, d2] => { results := [.lit (.bool false)], args := [d1, d2] }
  | _ => none }
def SphereTwoWrongFalsely : Prop := sphereTwoRow.holds Tryz.pinned (OpenSpec.ofChange sphereTwoWrong)

/-- 'tracerylaw07.SphereOne': WHATEVER THE INPUT: true; the input reads as it did. -/
def sphereOneSpec : ChangeSpec := { name := "sphereOne", fn := fun _ => fun
  | [d] => { results := [.lit (.bool true)], args := [d] }
  | _ => none }
def sphereOneRow : OpenClaim := { program := "ytdiemgedlfnlmaagreat", sum := "e3fb546d0c9b1959b59f547b6445e30d764e65175ded65063a0108cef6991a24", func := "tracery/tracerylaw07.SphereOne", spec := "sphereOne", unfollowed := true, recurses := true, plainKeys := false, apart := false }
def SphereOneSaid : Prop := sphereOneRow.holds Tryz.pinned (OpenSpec.ofChange sphereOneSpec)

/-- ITS FALSE NEIGHBOUR: 'it returns false'. Refute it at one input. -/
def sphereOneWrong : ChangeSpec := { name := "sphereOne", fn := fun _ => fun
  | [d] => { results := [.lit (.bool false)], args := [d] }
  | _ => none }
def SphereOneWrongFalsely : Prop := sphereOneRow.holds Tryz.pinned (OpenSpec.ofChange sphereOneWrong)

/-- 'tracerylaw04.GaussLists': WHATEVER THE INPUT: true; the input reads as it did. -/
def gaussListsSpec : ChangeSpec := { name := "gaussLists", fn := fun _ => fun
  | [d] => { results := [.lit (.bool true)], args := [d] }
  | _ => none }
def gaussListsRow : OpenClaim := { program := "ytdiemgedlfnlmaagreat", sum := "e3fb546d0c9b1959b59f547b6445e30d764e65175ded65063a0108cef6991a24", func := "tracery/tracerylaw04.GaussLists", spec := "gaussLists", unfollowed := true, recurses := true, plainKeys := false, apart := false }
def GaussListsSaid : Prop := gaussListsRow.holds Tryz.pinned (OpenSpec.ofChange gaussListsSpec)

/-- ITS FALSE NEIGHBOUR: 'it returns false'. Refute it at one input. -/
def gaussListsWrong : ChangeSpec := { name := "gaussLists", fn := fun _ => fun
  | [d] => { results := [.lit (.bool false)], args := [d] }
  | _ => none }
def GaussListsWrongFalsely : Prop := gaussListsRow.holds Tryz.pinned (OpenSpec.ofChange gaussListsWrong)

/-- 'tracerylaw10.CrossKept': WHATEVER THE INPUT: true; the input reads as it did. -/
def crossKeptSpec : ChangeSpec := { name := "crossKept", fn := fun _ => fun
  | [d1, d2, d3] => { results := [.lit (.bool true)], args := [d1, d2, d3] }
  | _ => none }
def crossKeptRow : OpenClaim := { program := "ytdiemgedlfnlmaagreat", sum := "e3fb546d0c9b1959b59f547b6445e30d764e65175ded65063a0108cef6991a24", func := "tracery/tracerylaw10.CrossKept", spec := "crossKept", plainKeys := false, apart := false }
def CrossKeptSaid : Prop := crossKeptRow.holds Tryz.pinned (OpenSpec.ofChange crossKeptSpec)

/-- ITS FALSE NEIGHBOUR: 'it returns false'. Refute it at one input. -/
def crossKeptWrong : ChangeSpec := { name := "crossKept", fn := fun _ => fun
  | [d1, d2, d3] => { results := [.lit (.bool false)], args := [d1, d2, d3] }
  | _ => none }
def CrossKeptWrongFalsely : Prop := crossKeptRow.holds Tryz.pinned (OpenSpec.ofChange crossKeptWrong)

/-- 'tracerylaw08.MobAt': WHATEVER THE INPUT: true; the input reads as it did. -/
def mobAtSpec : ChangeSpec := { name := "mobAt", fn := fun _ => fun
  | [d1, d2] => { results := [.lit (.bool true)], args := [d1, d2] }
  | _ => none }
def mobAtRow : OpenClaim := { program := "ytdiemgedlfnlmaagreat", sum := "e3fb546d0c9b1959b59f547b6445e30d764e65175ded65063a0108cef6991a24", func := "tracery/tracerylaw08.MobAt", spec := "mobAt", unfollowed := true, recurses := true, plainKeys := false, apart := false }
def MobAtSaid : Prop := mobAtRow.holds Tryz.pinned (OpenSpec.ofChange mobAtSpec)

/-- ITS FALSE NEIGHBOUR: 'it returns false'. Refute it at one input. -/
def mobAtWrong : ChangeSpec := { name := "mobAt", fn := fun _ => fun
  | [d1, d2] => { results := [.lit (.bool false)], args := [d1, d2] }
  | _ => none }
def MobAtWrongFalsely : Prop := mobAtRow.holds Tryz.pinned (OpenSpec.ofChange mobAtWrong)

/-- 'tracerylaw08.MobTold': WHATEVER THE INPUT: true; the input reads as it did. -/
def mobToldSpec : ChangeSpec := { name := "mobTold", fn := fun _ => fun
  | [d1, d2, d3] => { results := [.lit (.bool true)], args := [d1, d2, d3] }
  | _ => none }
def mobToldRow : OpenClaim := { program := "ytdiemgedlfnlmaagreat", sum := "e3fb546d0c9b1959b59f547b6445e30d764e65175ded65063a0108cef6991a24", func := "tracery/tracerylaw08.MobTold", spec := "mobTold", unfollowed := true, recurses := true, plainKeys := false, apart := false }
def MobToldSaid : Prop := mobToldRow.holds Tryz.pinned (OpenSpec.ofChange mobToldSpec)

/-- ITS FALSE NEIGHBOUR: 'it returns false'. Refute it at one input. -/
def mobToldWrong : ChangeSpec := { name := "mobTold", fn := fun _ => fun
  | [d1, d2, d3] => { results := [.lit (.bool false)], args := [d1, d2, d3] }
  | _ => none }
def MobToldWrongFalsely : Prop := mobToldRow.holds Tryz.pinned (OpenSpec.ofChange mobToldWrong)

/-- 'tracerylaw08.MobEdges': WHATEVER THE INPUT: true; the input reads as it did. -/
def mobEdgesSpec : ChangeSpec := { name := "mobEdges", fn := fun _ => fun
  | [] => { results := [.lit (.bool true)], args := [] }
  | _ => none }
def mobEdgesRow : OpenClaim := { program := "ytdiemgedlfnlmaagreat", sum := "e3fb546d0c9b1959b59f547b6445e30d764e65175ded65063a0108cef6991a24", func := "tracery/tracerylaw08.MobEdges", spec := "mobEdges", unfollowed := true, recurses := true, plainKeys := false, apart := false }
def MobEdgesSaid : Prop := mobEdgesRow.holds Tryz.pinned (OpenSpec.ofChange mobEdgesSpec)

/-- ITS FALSE NEIGHBOUR: 'it returns false'. Refute it at one input. -/
def mobEdgesWrong : ChangeSpec := { name := "mobEdges", fn := fun _ => fun
  | [] => { results := [.lit (.bool false)], args := [] }
  | _ => none }
def MobEdgesWrongFalsely : Prop := mobEdgesRow.holds Tryz.pinned (OpenSpec.ofChange mobEdgesWrong)

/-- 'tracerylaw11.CircTells': WHATEVER THE INPUT: true; the input reads as it did. -/
def circTellsSpec : ChangeSpec := { name := "circTells", fn := fun _ => fun
  | [d1, d2, d3] => { results := [.lit (.bool true)], args := [d1, d2, d3] }
  | _ => none }
def circTellsRow : OpenClaim := { program := "ytdiemgedlfnlmaagreat", sum := "e3fb546d0c9b1959b59f547b6445e30d764e65175ded65063a0108cef6991a24", func := "tracery/tracerylaw11.CircTells", spec := "circTells", inPlace := ["internal/abi.NoEscape", "internal/bytealg.MakeNoZero"], unfollowed := true, recurses := true, plainKeys := false, apart := false }
def CircTellsSaid : Prop := circTellsRow.holds Tryz.pinned (OpenSpec.ofChange circTellsSpec)

/-- ITS FALSE NEIGHBOUR: 'it returns false'. Refute it at one input. -/
def circTellsWrong : ChangeSpec := { name := "circTells", fn := fun _ => fun
  | [d1, d2, d3] => { results := [.lit (.bool false)], args := [d1, d2, d3] }
  | _ => none }
def CircTellsWrongFalsely : Prop := circTellsRow.holds Tryz.pinned (OpenSpec.ofChange circTellsWrong)

/-- 'tracerylaw11.CircImages': WHATEVER THE INPUT: true; the input reads as it did. -/
def circImagesSpec : ChangeSpec := { name := "circImages", fn := fun _ => fun
  | [d1, d2] => { results := [.lit (.bool true)], args := [d1, d2] }
  | _ => none }
def circImagesRow : OpenClaim := { program := "ytdiemgedlfnlmaagreat", sum := "e3fb546d0c9b1959b59f547b6445e30d764e65175ded65063a0108cef6991a24", func := "tracery/tracerylaw11.CircImages", spec := "circImages", inPlace := ["internal/abi.NoEscape", "internal/bytealg.MakeNoZero"], unfollowed := true, recurses := true, plainKeys := false, apart := false }
def CircImagesSaid : Prop := circImagesRow.holds Tryz.pinned (OpenSpec.ofChange circImagesSpec)

/-- ITS FALSE NEIGHBOUR: 'it returns false'. Refute it at one input. -/
def circImagesWrong : ChangeSpec := { name := "circImages", fn := fun _ => fun
  | [d1, d2] => { results := [.lit (.bool false)], args := [d1, d2] }
  | _ => none }
def CircImagesWrongFalsely : Prop := circImagesRow.holds Tryz.pinned (OpenSpec.ofChange circImagesWrong)

/-- 'tracerylaw11.CircBehind': WHATEVER THE INPUT: true; the input reads as it did. -/
def circBehindSpec : ChangeSpec := { name := "circBehind", fn := fun _ => fun
  | [d1, d2, d3] => { results := [.lit (.bool true)], args := [d1, d2, d3] }
  | _ => none }
def circBehindRow : OpenClaim := { program := "ytdiemgedlfnlmaagreat", sum := "e3fb546d0c9b1959b59f547b6445e30d764e65175ded65063a0108cef6991a24", func := "tracery/tracerylaw11.CircBehind", spec := "circBehind", inPlace := ["internal/abi.NoEscape", "internal/bytealg.MakeNoZero"], unfollowed := true, recurses := true, plainKeys := false, apart := false }
def CircBehindSaid : Prop := circBehindRow.holds Tryz.pinned (OpenSpec.ofChange circBehindSpec)

/-- ITS FALSE NEIGHBOUR: 'it returns false'. Refute it at one input. -/
def circBehindWrong : ChangeSpec := { name := "circBehind", fn := fun _ => fun
  | [d1, d2, d3] => { results := [.lit (.bool false)], args := [d1, d2, d3] }
  | _ => none }
def CircBehindWrongFalsely : Prop := circBehindRow.holds Tryz.pinned (OpenSpec.ofChange circBehindWrong)

/- THE SECOND FORM. 'bulk': how many values and letters a reading holds, each counted each time it is reached (what is shared counts as often as it is met; a slice's spare places count too). A statement '..UptoSaid' is the law's where the arguments, and the package variables that the reading takes, are together of bulk at most 1048576: NARROWER than '..Said'. Prove '..Said' where nothing that the law and all that it calls make is longer than what came in: it says more and counts as full. Else prove '..UptoSaid'. A law counts once. -/
mutual
def uptoBulk {H : Type} : DataW H → Nat
  | .lit (.string bytes) => bytes.length + 1
  | .lit _ => 1
  | .nil => 1
  | .ptr d => uptoBulk d + 1
  | .slice elems spare => uptoBulkAll elems + uptoBulkAll spare + 1
  | .agg parts => uptoBulkAll parts + 1
  | .iface _ d => uptoBulk d + 1
  | .map entries => uptoBulkEntries entries + 1
  | .held _ => 1
def uptoBulkAll {H : Type} : List (DataW H) → Nat
  | [] => 0
  | d :: r => uptoBulk d + uptoBulkAll r
def uptoBulkEntries {H : Type} : List (Lit × DataW H) → Nat
  | [] => 0
  | x :: r => uptoBulkEntry x + uptoBulkEntries r
def uptoBulkEntry {H : Type} : Lit × DataW H → Nat
  | (.string bytes, d) => bytes.length + uptoBulk d + 1
  | (_, d) => uptoBulk d + 1
 end
def uptoSmall : (H : Type) → List (DataW H) → Bool := fun _ ds => decide (uptoBulkAll ds ≤ 1048576)
def OpenSpec.upto (s : _root_.Go.ChangeSpec) : _root_.Go.OpenSpec := { _root_.Go.OpenSpec.ofChange s with cond := some uptoSmall }

/-- 'tracerylaw03.FracSimple', WHERE WHAT IT READS IS OF BULK AT MOST 1048576: true; the input reads as it did. -/
def fracSimpleUptoRow : OpenClaim := { program := "ytdiemgedlfnlmaagreat", sum := "e3fb546d0c9b1959b59f547b6445e30d764e65175ded65063a0108cef6991a24", func := "tracery/tracerylaw03.FracSimple", spec := "fracSimple", unfollowed := true, recurses := true, plainKeys := false, apart := false, narrowed := true }
def FracSimpleUptoSaid : Prop := fracSimpleUptoRow.holds Tryz.pinned (OpenSpec.upto fracSimpleSpec)

/-- 'tracerylaw07.SphereTwo', WHERE WHAT IT READS IS OF BULK AT MOST 1048576: true; the input reads as it did. -/
def sphereTwoUptoRow : OpenClaim := { program := "ytdiemgedlfnlmaagreat", sum := "e3fb546d0c9b1959b59f547b6445e30d764e65175ded65063a0108cef6991a24", func := "tracery/tracerylaw07.SphereTwo", spec := "sphereTwo", unfollowed := true, recurses := true, plainKeys := false, apart := false, narrowed := true }
def SphereTwoUptoSaid : Prop := sphereTwoUptoRow.holds Tryz.pinned (OpenSpec.upto sphereTwoSpec)

/-- 'tracerylaw07.SphereOne', WHERE WHAT IT READS IS OF BULK AT MOST 1048576: true; the input reads as it did. -/
def sphereOneUptoRow : OpenClaim := { program := "ytdiemgedlfnlmaagreat", sum := "e3fb546d0c9b1959b59f547b6445e30d764e65175ded65063a0108cef6991a24", func := "tracery/tracerylaw07.SphereOne", spec := "sphereOne", unfollowed := true, recurses := true, plainKeys := false, apart := false, narrowed := true }
def SphereOneUptoSaid : Prop := sphereOneUptoRow.holds Tryz.pinned (OpenSpec.upto sphereOneSpec)

/-- 'tracerylaw04.GaussLists', WHERE WHAT IT READS IS OF BULK AT MOST 1048576: true; the input reads as it did. -/
def gaussListsUptoRow : OpenClaim := { program := "ytdiemgedlfnlmaagreat", sum := "e3fb546d0c9b1959b59f547b6445e30d764e65175ded65063a0108cef6991a24", func := "tracery/tracerylaw04.GaussLists", spec := "gaussLists", unfollowed := true, recurses := true, plainKeys := false, apart := false, narrowed := true }
def GaussListsUptoSaid : Prop := gaussListsUptoRow.holds Tryz.pinned (OpenSpec.upto gaussListsSpec)

/-- 'tracerylaw10.CrossKept', WHERE WHAT IT READS IS OF BULK AT MOST 1048576: true; the input reads as it did. -/
def crossKeptUptoRow : OpenClaim := { program := "ytdiemgedlfnlmaagreat", sum := "e3fb546d0c9b1959b59f547b6445e30d764e65175ded65063a0108cef6991a24", func := "tracery/tracerylaw10.CrossKept", spec := "crossKept", plainKeys := false, apart := false, narrowed := true }
def CrossKeptUptoSaid : Prop := crossKeptUptoRow.holds Tryz.pinned (OpenSpec.upto crossKeptSpec)

/-- 'tracerylaw08.MobAt', WHERE WHAT IT READS IS OF BULK AT MOST 1048576: true; the input reads as it did. -/
def mobAtUptoRow : OpenClaim := { program := "ytdiemgedlfnlmaagreat", sum := "e3fb546d0c9b1959b59f547b6445e30d764e65175ded65063a0108cef6991a24", func := "tracery/tracerylaw08.MobAt", spec := "mobAt", unfollowed := true, recurses := true, plainKeys := false, apart := false, narrowed := true }
def MobAtUptoSaid : Prop := mobAtUptoRow.holds Tryz.pinned (OpenSpec.upto mobAtSpec)

/-- 'tracerylaw08.MobTold', WHERE WHAT IT READS IS OF BULK AT MOST 1048576: true; the input reads as it did. -/
def mobToldUptoRow : OpenClaim := { program := "ytdiemgedlfnlmaagreat", sum := "e3fb546d0c9b1959b59f547b6445e30d764e65175ded65063a0108cef6991a24", func := "tracery/tracerylaw08.MobTold", spec := "mobTold", unfollowed := true, recurses := true, plainKeys := false, apart := false, narrowed := true }
def MobToldUptoSaid : Prop := mobToldUptoRow.holds Tryz.pinned (OpenSpec.upto mobToldSpec)

/-- 'tracerylaw08.MobEdges', WHERE WHAT IT READS IS OF BULK AT MOST 1048576: true; the input reads as it did. -/
def mobEdgesUptoRow : OpenClaim := { program := "ytdiemgedlfnlmaagreat", sum := "e3fb546d0c9b1959b59f547b6445e30d764e65175ded65063a0108cef6991a24", func := "tracery/tracerylaw08.MobEdges", spec := "mobEdges", unfollowed := true, recurses := true, plainKeys := false, apart := false, narrowed := true }
def MobEdgesUptoSaid : Prop := mobEdgesUptoRow.holds Tryz.pinned (OpenSpec.upto mobEdgesSpec)

/-- 'tracerylaw11.CircTells', WHERE WHAT IT READS IS OF BULK AT MOST 1048576: true; the input reads as it did. -/
def circTellsUptoRow : OpenClaim := { program := "ytdiemgedlfnlmaagreat", sum := "e3fb546d0c9b1959b59f547b6445e30d764e65175ded65063a0108cef6991a24", func := "tracery/tracerylaw11.CircTells", spec := "circTells", inPlace := ["internal/abi.NoEscape", "internal/bytealg.MakeNoZero"], unfollowed := true, recurses := true, plainKeys := false, apart := false, narrowed := true }
def CircTellsUptoSaid : Prop := circTellsUptoRow.holds Tryz.pinned (OpenSpec.upto circTellsSpec)

/-- 'tracerylaw11.CircImages', WHERE WHAT IT READS IS OF BULK AT MOST 1048576: true; the input reads as it did. -/
def circImagesUptoRow : OpenClaim := { program := "ytdiemgedlfnlmaagreat", sum := "e3fb546d0c9b1959b59f547b6445e30d764e65175ded65063a0108cef6991a24", func := "tracery/tracerylaw11.CircImages", spec := "circImages", inPlace := ["internal/abi.NoEscape", "internal/bytealg.MakeNoZero"], unfollowed := true, recurses := true, plainKeys := false, apart := false, narrowed := true }
def CircImagesUptoSaid : Prop := circImagesUptoRow.holds Tryz.pinned (OpenSpec.upto circImagesSpec)

/-- 'tracerylaw11.CircBehind', WHERE WHAT IT READS IS OF BULK AT MOST 1048576: true; the input reads as it did. -/
def circBehindUptoRow : OpenClaim := { program := "ytdiemgedlfnlmaagreat", sum := "e3fb546d0c9b1959b59f547b6445e30d764e65175ded65063a0108cef6991a24", func := "tracery/tracerylaw11.CircBehind", spec := "circBehind", inPlace := ["internal/abi.NoEscape", "internal/bytealg.MakeNoZero"], unfollowed := true, recurses := true, plainKeys := false, apart := false, narrowed := true }
def CircBehindUptoSaid : Prop := circBehindUptoRow.holds Tryz.pinned (OpenSpec.upto circBehindSpec)

end Rows
end Go.Proofs.YtdiemgedlfnlmaaGreat
