/-
  No cell of these rows narrows 'for every input' (looked for: loops, veiled, ifaces, maps, wideKeys, modest, calm, conditions, laid).
  DERIVED. THE GIVEN ROWS OF THIS SEAT. 11 by the template 'for every input the law returns true; each argument reads behind the call as it read before'; 0 by the template 'total and deterministic' (their statements: YtpccljaooghafaaGreatTotals.lean).
  GIVEN WITH THE SEED: the statements are not yours to turn. If you find one false, say at which input.
  Laid BY PROGRAM, IN A SANDBOX (cutbox-rows.mjs): the forced cells as the released guide's own fill.sh prints them over the translation 31bedfb513288ac2… (all of the seat's roots in one cut). By AI agents, Wed Nov 11 2026. No macro, syntax, notation, axiom, sorry.
-/
import Derived.Test.YtpccljaooghafaaGreatChecked
import GoSem.Claim
import GoSem.ClaimJoined
import GoSem.ClaimMapViews
import Derived.JoinedTies
import Derived.KernelRfl
namespace Go.Proofs.YtpccljaooghafaaGreat
/- THE CELL 'sum', in the pinned program and in every row, IS THE sha256 OF THE DUMP (.gsa) THAT YtpccljaooghafaaGreatProg.lean LOADS. Nothing in Lean hashes anything: it is a label: what it is worth is what the hold of that sum in a sandbox is worth. -/
noncomputable def Tryz.pinned : Pinned := { name := "ytpccljaooghafaagreat", sum := "31bedfb513288ac239d5a95b59d4f9a836cbfae4007f1ad3b83fd936f4efa622", checked := Tryz.checked }
namespace Rows
def none {H : Type} : Left H := { results := [], args := [] }

/-- 'tracerylaw03.FracSimple': WHATEVER THE INPUT: true; the input reads as it did. -/
def fracSimpleSpec : ChangeSpec := { name := "fracSimple", fn := fun _ => fun
  | [d1, d2] => { results := [.lit (.bool true)], args := [d1, d2] }
  | _ => none }
def fracSimpleRow : OpenClaim := { program := "ytpccljaooghafaagreat", sum := "31bedfb513288ac239d5a95b59d4f9a836cbfae4007f1ad3b83fd936f4efa622", func := "tracery/tracerylaw03.FracSimple", spec := "fracSimple", unfollowed := true, recurses := true, plainKeys := false, apart := false }
def FracSimpleSaid : Prop := fracSimpleRow.holds Tryz.pinned (OpenSpec.ofChange fracSimpleSpec)

/-- ITS FALSE NEIGHBOUR: 'it returns false'. Refute it at one input. -/
def fracSimpleWrong : ChangeSpec := { name := "fracSimple", fn := fun _ => fun
  | [d1, d2] => { results := [.lit (.bool false)], args := [d1, d2] }
  | _ => none }
def FracSimpleWrongFalsely : Prop := fracSimpleRow.holds Tryz.pinned (OpenSpec.ofChange fracSimpleWrong)

/-- 'tracerylaw03.FracOne': WHATEVER THE INPUT: true; the input reads as it did. -/
def fracOneSpec : ChangeSpec := { name := "fracOne", fn := fun _ => fun
  | [d1, d2, d3] => { results := [.lit (.bool true)], args := [d1, d2, d3] }
  | _ => none }
def fracOneRow : OpenClaim := { program := "ytpccljaooghafaagreat", sum := "31bedfb513288ac239d5a95b59d4f9a836cbfae4007f1ad3b83fd936f4efa622", func := "tracery/tracerylaw03.FracOne", spec := "fracOne", unfollowed := true, recurses := true, plainKeys := false, apart := false }
def FracOneSaid : Prop := fracOneRow.holds Tryz.pinned (OpenSpec.ofChange fracOneSpec)

/-- ITS FALSE NEIGHBOUR: 'it returns false'. Refute it at one input. -/
def fracOneWrong : ChangeSpec := { name := "fracOne", fn := fun _ => fun
  | [d1, d2, d3] => { results := [.lit (.bool false)], args := [d1, d2, d3] }
  | _ => none }
def FracOneWrongFalsely : Prop := fracOneRow.holds Tryz.pinned (OpenSpec.ofChange fracOneWrong)

/-- 'tracerylaw07.SphereTwo': WHATEVER THE INPUT: true; the input reads as it did. -/
def sphereTwoSpec : ChangeSpec := { name := "sphereTwo", fn := fun _ => fun
  | [d1, d2] => { results := [.lit (.bool true)], args := [d1, d2] }
  | _ => none }
def sphereTwoRow : OpenClaim := { program := "ytpccljaooghafaagreat", sum := "31bedfb513288ac239d5a95b59d4f9a836cbfae4007f1ad3b83fd936f4efa622", func := "tracery/tracerylaw07.SphereTwo", spec := "sphereTwo", unfollowed := true, recurses := true, plainKeys := false, apart := false }
def SphereTwoSaid : Prop := sphereTwoRow.holds Tryz.pinned (OpenSpec.ofChange sphereTwoSpec)

/-- ITS FALSE NEIGHBOUR: 'it returns false'. Refute it at one input. -/
def sphereTwoWrong : ChangeSpec := { name := "sphereTwo", fn := fun _ => fun
  | [d1, d2] => { results := [.lit (.bool false)], args := [d1, d2] }
  | _ => none }
def SphereTwoWrongFalsely : Prop := sphereTwoRow.holds Tryz.pinned (OpenSpec.ofChange sphereTwoWrong)

/-- 'tracerylaw07.SphereOne': WHATEVER THE INPUT: true; the input reads as it did. -/
def sphereOneSpec : ChangeSpec := { name := "sphereOne", fn := fun _ => fun
  | [d] => { results := [.lit (.bool true)], args := [d] }
  | _ => none }
def sphereOneRow : OpenClaim := { program := "ytpccljaooghafaagreat", sum := "31bedfb513288ac239d5a95b59d4f9a836cbfae4007f1ad3b83fd936f4efa622", func := "tracery/tracerylaw07.SphereOne", spec := "sphereOne", unfollowed := true, recurses := true, plainKeys := false, apart := false }
def SphereOneSaid : Prop := sphereOneRow.holds Tryz.pinned (OpenSpec.ofChange sphereOneSpec)

/-- ITS FALSE NEIGHBOUR: 'it returns false'. Refute it at one input. -/
def sphereOneWrong : ChangeSpec := { name := "sphereOne", fn := fun _ => fun
  | [d] => { results := [.lit (.bool false)], args := [d] }
  | _ => none }
def SphereOneWrongFalsely : Prop := sphereOneRow.holds Tryz.pinned (OpenSpec.ofChange sphereOneWrong)

/-- 'tracerylaw10.CrossKept': WHATEVER THE INPUT: true; the input reads as it did. -/
def crossKeptSpec : ChangeSpec := { name := "crossKept", fn := fun _ => fun
  | [d1, d2, d3] => { results := [.lit (.bool true)], args := [d1, d2, d3] }
  | _ => none }
def crossKeptRow : OpenClaim := { program := "ytpccljaooghafaagreat", sum := "31bedfb513288ac239d5a95b59d4f9a836cbfae4007f1ad3b83fd936f4efa622", func := "tracery/tracerylaw10.CrossKept", spec := "crossKept", plainKeys := false, apart := false }
def CrossKeptSaid : Prop := crossKeptRow.holds Tryz.pinned (OpenSpec.ofChange crossKeptSpec)

/-- ITS FALSE NEIGHBOUR: 'it returns false'. Refute it at one input. -/
def crossKeptWrong : ChangeSpec := { name := "crossKept", fn := fun _ => fun
  | [d1, d2, d3] => { results := [.lit (.bool false)], args := [d1, d2, d3] }
  | _ => none }
def CrossKeptWrongFalsely : Prop := crossKeptRow.holds Tryz.pinned (OpenSpec.ofChange crossKeptWrong)

/-- 'tracerylaw08.MobTold': WHATEVER THE INPUT: true; the input reads as it did. -/
def mobToldSpec : ChangeSpec := { name := "mobTold", fn := fun _ => fun
  | [d1, d2, d3] => { results := [.lit (.bool true)], args := [d1, d2, d3] }
  | _ => none }
def mobToldRow : OpenClaim := { program := "ytpccljaooghafaagreat", sum := "31bedfb513288ac239d5a95b59d4f9a836cbfae4007f1ad3b83fd936f4efa622", func := "tracery/tracerylaw08.MobTold", spec := "mobTold", unfollowed := true, recurses := true, plainKeys := false, apart := false }
def MobToldSaid : Prop := mobToldRow.holds Tryz.pinned (OpenSpec.ofChange mobToldSpec)

/-- ITS FALSE NEIGHBOUR: 'it returns false'. Refute it at one input. -/
def mobToldWrong : ChangeSpec := { name := "mobTold", fn := fun _ => fun
  | [d1, d2, d3] => { results := [.lit (.bool false)], args := [d1, d2, d3] }
  | _ => none }
def MobToldWrongFalsely : Prop := mobToldRow.holds Tryz.pinned (OpenSpec.ofChange mobToldWrong)

/-- 'tracerylaw08.MobEdges': WHATEVER THE INPUT: true; the input reads as it did. -/
def mobEdgesSpec : ChangeSpec := { name := "mobEdges", fn := fun _ => fun
  | [] => { results := [.lit (.bool true)], args := [] }
  | _ => none }
def mobEdgesRow : OpenClaim := { program := "ytpccljaooghafaagreat", sum := "31bedfb513288ac239d5a95b59d4f9a836cbfae4007f1ad3b83fd936f4efa622", func := "tracery/tracerylaw08.MobEdges", spec := "mobEdges", unfollowed := true, recurses := true, plainKeys := false, apart := false }
def MobEdgesSaid : Prop := mobEdgesRow.holds Tryz.pinned (OpenSpec.ofChange mobEdgesSpec)

/-- ITS FALSE NEIGHBOUR: 'it returns false'. Refute it at one input. -/
def mobEdgesWrong : ChangeSpec := { name := "mobEdges", fn := fun _ => fun
  | [] => { results := [.lit (.bool false)], args := [] }
  | _ => none }
def MobEdgesWrongFalsely : Prop := mobEdgesRow.holds Tryz.pinned (OpenSpec.ofChange mobEdgesWrong)

/-- 'tracerylaw11.CircBehind': WHATEVER THE INPUT: true; the input reads as it did. -/
def circBehindSpec : ChangeSpec := { name := "circBehind", fn := fun _ => fun
  | [d1, d2, d3] => { results := [.lit (.bool true)], args := [d1, d2, d3] }
  | _ => none }
def circBehindRow : OpenClaim := { program := "ytpccljaooghafaagreat", sum := "31bedfb513288ac239d5a95b59d4f9a836cbfae4007f1ad3b83fd936f4efa622", func := "tracery/tracerylaw11.CircBehind", spec := "circBehind", inPlace := ["internal/abi.NoEscape", "internal/bytealg.MakeNoZero"], unfollowed := true, recurses := true, plainKeys := false, apart := false }
def CircBehindSaid : Prop := circBehindRow.holds Tryz.pinned (OpenSpec.ofChange circBehindSpec)

/-- ITS FALSE NEIGHBOUR: 'it returns false'. Refute it at one input. -/
def circBehindWrong : ChangeSpec := { name := "circBehind", fn := fun _ => fun
  | [d1, d2, d3] => { results := [.lit (.bool false)], args := [d1, d2, d3] }
  | _ => none }
def CircBehindWrongFalsely : Prop := circBehindRow.holds Tryz.pinned (OpenSpec.ofChange circBehindWrong)

/-- 'tracerylaw13.MeetPoints': WHATEVER THE INPUT: true; the input reads as it did. -/
def meetPointsSpec : ChangeSpec := { name := "meetPoints", fn := fun _ => fun
  | [d1, d2] => { results := [.lit (.bool true)], args := [d1, d2] }
  | _ => none }
def meetPointsRow : OpenClaim := { program := "ytpccljaooghafaagreat", sum := "31bedfb513288ac239d5a95b59d4f9a836cbfae4007f1ad3b83fd936f4efa622", func := "tracery/tracerylaw13.MeetPoints", spec := "meetPoints", unfollowed := true, recurses := true, plainKeys := false, apart := false }
def MeetPointsSaid : Prop := meetPointsRow.holds Tryz.pinned (OpenSpec.ofChange meetPointsSpec)

/-- ITS FALSE NEIGHBOUR: 'it returns false'. Refute it at one input. -/
def meetPointsWrong : ChangeSpec := { name := "meetPoints", fn := fun _ => fun
  | [d1, d2] => { results := [.lit (.bool false)], args := [d1, d2] }
  | _ => none }
def MeetPointsWrongFalsely : Prop := meetPointsRow.holds Tryz.pinned (OpenSpec.ofChange meetPointsWrong)

/-- 'tracerylaw13.MeetOver': WHATEVER THE INPUT: true; the input reads as it did. -/
def meetOverSpec : ChangeSpec := { name := "meetOver", fn := fun _ => fun
  | [d1, d2] => { results := [.lit (.bool true)], args := [d1, d2] }
  | _ => none }
def meetOverRow : OpenClaim := { program := "ytpccljaooghafaagreat", sum := "31bedfb513288ac239d5a95b59d4f9a836cbfae4007f1ad3b83fd936f4efa622", func := "tracery/tracerylaw13.MeetOver", spec := "meetOver", unfollowed := true, recurses := true, plainKeys := false, apart := false }
def MeetOverSaid : Prop := meetOverRow.holds Tryz.pinned (OpenSpec.ofChange meetOverSpec)

/-- ITS FALSE NEIGHBOUR: 'it returns false'. Refute it at one input. -/
def meetOverWrong : ChangeSpec := { name := "meetOver", fn := fun _ => fun
  | [d1, d2] => { results := [.lit (.bool false)], args := [d1, d2] }
  | _ => none }
def MeetOverWrongFalsely : Prop := meetOverRow.holds Tryz.pinned (OpenSpec.ofChange meetOverWrong)

/-- 'tracerylaw13.MeetKept': WHATEVER THE INPUT: true; the input reads as it did. -/
def meetKeptSpec : ChangeSpec := { name := "meetKept", fn := fun _ => fun
  | [d1, d2] => { results := [.lit (.bool true)], args := [d1, d2] }
  | _ => none }
def meetKeptRow : OpenClaim := { program := "ytpccljaooghafaagreat", sum := "31bedfb513288ac239d5a95b59d4f9a836cbfae4007f1ad3b83fd936f4efa622", func := "tracery/tracerylaw13.MeetKept", spec := "meetKept", unfollowed := true, recurses := true, plainKeys := false, apart := false }
def MeetKeptSaid : Prop := meetKeptRow.holds Tryz.pinned (OpenSpec.ofChange meetKeptSpec)

/-- ITS FALSE NEIGHBOUR: 'it returns false'. Refute it at one input. -/
def meetKeptWrong : ChangeSpec := { name := "meetKept", fn := fun _ => fun
  | [d1, d2] => { results := [.lit (.bool false)], args := [d1, d2] }
  | _ => none }
def MeetKeptWrongFalsely : Prop := meetKeptRow.holds Tryz.pinned (OpenSpec.ofChange meetKeptWrong)

/- THE SECOND FORM. 'bulk': how many values and letters a reading holds, each counted each time it is reached (what is shared counts as often as it is met; a slice's spare places count too). A statement '..UptoSaid' is the law's where the arguments, and the package variables that the reading takes, are together of bulk at most 1048576: NARROWER than '..Said'. Prove '..Said' where nothing that the law and all that it calls make is longer than what came in: it says more and counts as full. Else prove '..UptoSaid'. A law counts once. -/
mutual
def uptoBulk {H : Type} : DataW H → Nat
  | .lit (.string bytes) => bytes.length + 1
  | .lit _ => 1
  | .nil => 1
  | .ptr d => uptoBulk d + 1
  | .slice elems spare => uptoBulkAll elems + uptoBulkAll spare + 1
  | .agg parts => uptoBulkAll parts + 1
  | .iface _ d => uptoBulk d + 1
  | .map entries => uptoBulkEntries entries + 1
  | .held _ => 1
def uptoBulkAll {H : Type} : List (DataW H) → Nat
  | [] => 0
  | d :: r => uptoBulk d + uptoBulkAll r
def uptoBulkEntries {H : Type} : List (Lit × DataW H) → Nat
  | [] => 0
  | x :: r => uptoBulkEntry x + uptoBulkEntries r
def uptoBulkEntry {H : Type} : Lit × DataW H → Nat
  | (.string bytes, d) => bytes.length + uptoBulk d + 1
  | (_, d) => uptoBulk d + 1
 end
def uptoSmall : (H : Type) → List (DataW H) → Bool := fun _ ds => decide (uptoBulkAll ds ≤ 1048576)
def OpenSpec.upto (s : _root_.Go.ChangeSpec) : _root_.Go.OpenSpec := { _root_.Go.OpenSpec.ofChange s with cond := some uptoSmall }

/-- 'tracerylaw03.FracSimple', WHERE WHAT IT READS IS OF BULK AT MOST 1048576: true; the input reads as it did. -/
def fracSimpleUptoRow : OpenClaim := { program := "ytpccljaooghafaagreat", sum := "31bedfb513288ac239d5a95b59d4f9a836cbfae4007f1ad3b83fd936f4efa622", func := "tracery/tracerylaw03.FracSimple", spec := "fracSimple", unfollowed := true, recurses := true, plainKeys := false, apart := false, narrowed := true }
def FracSimpleUptoSaid : Prop := fracSimpleUptoRow.holds Tryz.pinned (OpenSpec.upto fracSimpleSpec)

/-- 'tracerylaw03.FracOne', WHERE WHAT IT READS IS OF BULK AT MOST 1048576: true; the input reads as it did. -/
def fracOneUptoRow : OpenClaim := { program := "ytpccljaooghafaagreat", sum := "31bedfb513288ac239d5a95b59d4f9a836cbfae4007f1ad3b83fd936f4efa622", func := "tracery/tracerylaw03.FracOne", spec := "fracOne", unfollowed := true, recurses := true, plainKeys := false, apart := false, narrowed := true }
def FracOneUptoSaid : Prop := fracOneUptoRow.holds Tryz.pinned (OpenSpec.upto fracOneSpec)

/-- 'tracerylaw07.SphereTwo', WHERE WHAT IT READS IS OF BULK AT MOST 1048576: true; the input reads as it did. -/
def sphereTwoUptoRow : OpenClaim := { program := "ytpccljaooghafaagreat", sum := "31bedfb513288ac239d5a95b59d4f9a836cbfae4007f1ad3b83fd936f4efa622", func := "tracery/tracerylaw07.SphereTwo", spec := "sphereTwo", unfollowed := true, recurses := true, plainKeys := false, apart := false, narrowed := true }
def SphereTwoUptoSaid : Prop := sphereTwoUptoRow.holds Tryz.pinned (OpenSpec.upto sphereTwoSpec)

/-- 'tracerylaw07.SphereOne', WHERE WHAT IT READS IS OF BULK AT MOST 1048576: true; the input reads as it did. -/
def sphereOneUptoRow : OpenClaim := { program := "ytpccljaooghafaagreat", sum := "31bedfb513288ac239d5a95b59d4f9a836cbfae4007f1ad3b83fd936f4efa622", func := "tracery/tracerylaw07.SphereOne", spec := "sphereOne", unfollowed := true, recurses := true, plainKeys := false, apart := false, narrowed := true }
def SphereOneUptoSaid : Prop := sphereOneUptoRow.holds Tryz.pinned (OpenSpec.upto sphereOneSpec)

/-- 'tracerylaw10.CrossKept', WHERE WHAT IT READS IS OF BULK AT MOST 1048576: true; the input reads as it did. -/
def crossKeptUptoRow : OpenClaim := { program := "ytpccljaooghafaagreat", sum := "31bedfb513288ac239d5a95b59d4f9a836cbfae4007f1ad3b83fd936f4efa622", func := "tracery/tracerylaw10.CrossKept", spec := "crossKept", plainKeys := false, apart := false, narrowed := true }
def CrossKeptUptoSaid : Prop := crossKeptUptoRow.holds Tryz.pinned (OpenSpec.upto crossKeptSpec)

/-- 'tracerylaw08.MobTold', WHERE WHAT IT READS IS OF BULK AT MOST 1048576: true; the input reads as it did. -/
def mobToldUptoRow : OpenClaim := { program := "ytpccljaooghafaagreat", sum := "31bedfb513288ac239d5a95b59d4f9a836cbfae4007f1ad3b83fd936f4efa622", func := "tracery/tracerylaw08.MobTold", spec := "mobTold", unfollowed := true, recurses := true, plainKeys := false, apart := false, narrowed := true }
def MobToldUptoSaid : Prop := mobToldUptoRow.holds Tryz.pinned (OpenSpec.upto mobToldSpec)

/-- 'tracerylaw08.MobEdges', WHERE WHAT IT READS IS OF BULK AT MOST 1048576: true; the input reads as it did. -/
def mobEdgesUptoRow : OpenClaim := { program := "ytpccljaooghafaagreat", sum := "31bedfb513288ac239d5a95b59d4f9a836cbfae4007f1ad3b83fd936f4efa622", func := "tracery/tracerylaw08.MobEdges", spec := "mobEdges", unfollowed := true, recurses := true, plainKeys := false, apart := false, narrowed := true }
def MobEdgesUptoSaid : Prop := mobEdgesUptoRow.holds Tryz.pinned (OpenSpec.upto mobEdgesSpec)

/-- 'tracerylaw11.CircBehind', WHERE WHAT IT READS IS OF BULK AT MOST 1048576: true; the input reads as it did. -/
def circBehindUptoRow : OpenClaim := { program := "ytpccljaooghafaagreat", sum := "31bedfb513288ac239d5a95b59d4f9a836cbfae4007f1ad3b83fd936f4efa622", func := "tracery/tracerylaw11.CircBehind", spec := "circBehind", inPlace := ["internal/abi.NoEscape", "internal/bytealg.MakeNoZero"], unfollowed := true, recurses := true, plainKeys := false, apart := false, narrowed := true }
def CircBehindUptoSaid : Prop := circBehindUptoRow.holds Tryz.pinned (OpenSpec.upto circBehindSpec)

/-- 'tracerylaw13.MeetPoints', WHERE WHAT IT READS IS OF BULK AT MOST 1048576: true; the input reads as it did. -/
def meetPointsUptoRow : OpenClaim := { program := "ytpccljaooghafaagreat", sum := "31bedfb513288ac239d5a95b59d4f9a836cbfae4007f1ad3b83fd936f4efa622", func := "tracery/tracerylaw13.MeetPoints", spec := "meetPoints", unfollowed := true, recurses := true, plainKeys := false, apart := false, narrowed := true }
def MeetPointsUptoSaid : Prop := meetPointsUptoRow.holds Tryz.pinned (OpenSpec.upto meetPointsSpec)

/-- 'tracerylaw13.MeetOver', WHERE WHAT IT READS IS OF BULK AT MOST 1048576: true; the input reads as it did. -/
def meetOverUptoRow : OpenClaim := { program := "ytpccljaooghafaagreat", sum := "31bedfb513288ac239d5a95b59d4f9a836cbfae4007f1ad3b83fd936f4efa622", func := "tracery/tracerylaw13.MeetOver", spec := "meetOver", unfollowed := true, recurses := true, plainKeys := false, apart := false, narrowed := true }
def MeetOverUptoSaid : Prop := meetOverUptoRow.holds Tryz.pinned (OpenSpec.upto meetOverSpec)

/-- 'tracerylaw13.MeetKept', WHERE WHAT IT READS IS OF BULK AT MOST 1048576: true; the input reads as it did. -/
def meetKeptUptoRow : OpenClaim := { program := "ytpccljaooghafaagreat", sum := "31bedfb513288ac239d5a95b59d4f9a836cbfae4007f1ad3b83fd936f4efa622", func := "tracery/tracerylaw13.MeetKept", spec := "meetKept", unfollowed := true, recurses := true, plainKeys := false, apart := false, narrowed := true }
def MeetKeptUptoSaid : Prop := meetKeptUptoRow.holds Tryz.pinned (OpenSpec.upto meetKeptSpec)

end Rows
end Go.Proofs.YtpccljaooghafaaGreat
