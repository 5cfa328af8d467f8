/-
  No cell of these rows narrows 'for every input' (looked for: loops, veiled, ifaces, maps, wideKeys, modest, calm, conditions, laid).
  DERIVED. THE GIVEN ROWS OF THIS SEAT. 12 by the template 'for every input the law returns true; each argument reads behind the call as it read before'; 0 by the template 'total and deterministic' (their statements: YtmfedaakeeiolaaGreatTotals.lean).
  GIVEN WITH THE SEED: the statements are not yours to turn. If you find one false, say at which input.
  Laid BY PROGRAM, IN A SANDBOX (cutbox-rows.mjs): the forced cells as the released guide's own fill.sh prints them over the translation 4a9b2012b8295ea9… (all of the seat's roots in one cut). By AI agents, Wed Nov 11 2026. No macro, syntax, notation, axiom, sorry.
-/
import Derived.Test.YtmfedaakeeiolaaGreatChecked
import GoSem.Claim
import GoSem.ClaimJoined
import GoSem.ClaimMapViews
import Derived.JoinedTies
import Derived.KernelRfl
namespace Go.Proofs.YtmfedaakeeiolaaGreat
/- THE CELL 'sum', in the pinned program and in every row, IS THE sha256 OF THE DUMP (.gsa) THAT YtmfedaakeeiolaaGreatProg.lean LOADS. Nothing in Lean hashes anything: it is a label: what it is worth is what the hold of that sum in a sandbox is worth. -/
noncomputable def Tryz.pinned : Pinned := { name := "ytmfedaakeeiolaagreat", sum := "4a9b2012b8295ea9817aff3118ecb5fde452e1337c06b6c338ba9c9a2acf2ec0", checked := Tryz.checked }
namespace Rows
def none {H : Type} : Left H := { results := [], args := [] }

/-- 'tracerylaw03.FracSimple': WHATEVER THE INPUT: true; the input reads as it did. -/
def fracSimpleSpec : ChangeSpec := { name := "fracSimple", fn := fun _ => fun
  | [d1, d2] => { results := [.lit (.bool true)], args := [d1, d2] }
  | _ => none }
def fracSimpleRow : OpenClaim := { program := "ytmfedaakeeiolaagreat", sum := "4a9b2012b8295ea9817aff3118ecb5fde452e1337c06b6c338ba9c9a2acf2ec0", func := "tracery/tracerylaw03.FracSimple", spec := "fracSimple", unfollowed := true, recurses := true, plainKeys := false, apart := false }
def FracSimpleSaid : Prop := fracSimpleRow.holds Tryz.pinned (OpenSpec.ofChange fracSimpleSpec)

/-- ITS FALSE NEIGHBOUR: 'it returns false'. Refute it at one input. -/
def fracSimpleWrong : ChangeSpec := { name := "fracSimple", fn := fun _ => fun
  | [d1, d2] => { results := [.lit (.bool false)], args := [d1, d2] }
  | _ => none }
def FracSimpleWrongFalsely : Prop := fracSimpleRow.holds Tryz.pinned (OpenSpec.ofChange fracSimpleWrong)

/-- 'tracerylaw08.MobPowers': WHATEVER THE INPUT: true; the input reads as it did. -/
def mobPowersSpec : ChangeSpec := { name := "mobPowers", fn := fun _ => fun
  | [d1, d2] => { results := [.lit (.bool true)], args := [d1, d2] }
  | _ => none }
def mobPowersRow : OpenClaim := { program := "ytmfedaakeeiolaagreat", sum := "4a9b2012b8295ea9817aff3118ecb5fde452e1337c06b6c338ba9c9a2acf2ec0", func := "tracery/tracerylaw08.MobPowers", spec := "mobPowers", recurses := true, plainKeys := false, apart := false }
def MobPowersSaid : Prop := mobPowersRow.holds Tryz.pinned (OpenSpec.ofChange mobPowersSpec)

/-- ITS FALSE NEIGHBOUR: 'it returns false'. Refute it at one input. -/
def mobPowersWrong : ChangeSpec := { name := "mobPowers", fn := fun _ => fun
  | [d1, d2] => { results := [.lit (.bool false)], args := [d1, d2] }
  | _ => none }
def MobPowersWrongFalsely : Prop := mobPowersRow.holds Tryz.pinned (OpenSpec.ofChange mobPowersWrong)

/-- 'tracerylaw08.MobOrbit': WHATEVER THE INPUT: true; the input reads as it did. -/
def mobOrbitSpec : ChangeSpec := { name := "mobOrbit", fn := fun _ => fun
  | [d] => { results := [.lit (.bool true)], args := [d] }
  | _ => none }
def mobOrbitRow : OpenClaim := { program := "ytmfedaakeeiolaagreat", sum := "4a9b2012b8295ea9817aff3118ecb5fde452e1337c06b6c338ba9c9a2acf2ec0", func := "tracery/tracerylaw08.MobOrbit", spec := "mobOrbit", unfollowed := true, recurses := true, plainKeys := false, apart := false }
def MobOrbitSaid : Prop := mobOrbitRow.holds Tryz.pinned (OpenSpec.ofChange mobOrbitSpec)

/-- ITS FALSE NEIGHBOUR: 'it returns false'. Refute it at one input. -/
def mobOrbitWrong : ChangeSpec := { name := "mobOrbit", fn := fun _ => fun
  | [d] => { results := [.lit (.bool false)], args := [d] }
  | _ => none }
def MobOrbitWrongFalsely : Prop := mobOrbitRow.holds Tryz.pinned (OpenSpec.ofChange mobOrbitWrong)

/-- 'tracerylaw08.MobRow': WHATEVER THE INPUT: true; the input reads as it did. -/
def mobRowSpec : ChangeSpec := { name := "mobRow", fn := fun _ => fun
  | [d] => { results := [.lit (.bool true)], args := [d] }
  | _ => none }
def mobRowRow : OpenClaim := { program := "ytmfedaakeeiolaagreat", sum := "4a9b2012b8295ea9817aff3118ecb5fde452e1337c06b6c338ba9c9a2acf2ec0", func := "tracery/tracerylaw08.MobRow", spec := "mobRow", unfollowed := true, recurses := true, plainKeys := false, apart := false }
def MobRowSaid : Prop := mobRowRow.holds Tryz.pinned (OpenSpec.ofChange mobRowSpec)

/-- ITS FALSE NEIGHBOUR: 'it returns false'. Refute it at one input. -/
def mobRowWrong : ChangeSpec := { name := "mobRow", fn := fun _ => fun
  | [d] => { results := [.lit (.bool false)], args := [d] }
  | _ => none }
def MobRowWrongFalsely : Prop := mobRowRow.holds Tryz.pinned (OpenSpec.ofChange mobRowWrong)

/-- 'tracerylaw04.GaussPowers': WHATEVER THE INPUT: true; the input reads as it did. -/
def gaussPowersSpec : ChangeSpec := { name := "gaussPowers", fn := fun _ => fun
  | [d1, d2] => { results := [.lit (.bool true)], args := [d1, d2] }
  | _ => none }
def gaussPowersRow : OpenClaim := { program := "ytmfedaakeeiolaagreat", sum := "4a9b2012b8295ea9817aff3118ecb5fde452e1337c06b6c338ba9c9a2acf2ec0", func := "tracery/tracerylaw04.GaussPowers", spec := "gaussPowers", unfollowed := true, recurses := true, plainKeys := false, apart := false }
def GaussPowersSaid : Prop := gaussPowersRow.holds Tryz.pinned (OpenSpec.ofChange gaussPowersSpec)

/-- ITS FALSE NEIGHBOUR: 'it returns false'. Refute it at one input. -/
def gaussPowersWrong : ChangeSpec := { name := "gaussPowers", fn := fun _ => fun
  | [d1, d2] => { results := [.lit (.bool false)], args := [d1, d2] }
  | _ => none }
def GaussPowersWrongFalsely : Prop := gaussPowersRow.holds Tryz.pinned (OpenSpec.ofChange gaussPowersWrong)

/-- 'tracerylaw04.GaussLists': WHATEVER THE INPUT: true; the input reads as it did. -/
def gaussListsSpec : ChangeSpec := { name := "gaussLists", fn := fun _ => fun
  | [d] => { results := [.lit (.bool true)], args := [d] }
  | _ => none }
def gaussListsRow : OpenClaim := { program := "ytmfedaakeeiolaagreat", sum := "4a9b2012b8295ea9817aff3118ecb5fde452e1337c06b6c338ba9c9a2acf2ec0", func := "tracery/tracerylaw04.GaussLists", spec := "gaussLists", unfollowed := true, recurses := true, plainKeys := false, apart := false }
def GaussListsSaid : Prop := gaussListsRow.holds Tryz.pinned (OpenSpec.ofChange gaussListsSpec)

/-- ITS FALSE NEIGHBOUR: 'it returns false'. Refute it at one input. -/
def gaussListsWrong : ChangeSpec := { name := "gaussLists", fn := fun _ => fun
  | [d] => { results := [.lit (.bool false)], args := [d] }
  | _ => none }
def GaussListsWrongFalsely : Prop := gaussListsRow.holds Tryz.pinned (OpenSpec.ofChange gaussListsWrong)

/-- 'tracerylaw08.MobAt': WHATEVER THE INPUT: true; the input reads as it did. -/
def mobAtSpec : ChangeSpec := { name := "mobAt", fn := fun _ => fun
  | [d1, d2] => { results := [.lit (.bool true)], args := [d1, d2] }
  | _ => none }
def mobAtRow : OpenClaim := { program := "ytmfedaakeeiolaagreat", sum := "4a9b2012b8295ea9817aff3118ecb5fde452e1337c06b6c338ba9c9a2acf2ec0", func := "tracery/tracerylaw08.MobAt", spec := "mobAt", unfollowed := true, recurses := true, plainKeys := false, apart := false }
def MobAtSaid : Prop := mobAtRow.holds Tryz.pinned (OpenSpec.ofChange mobAtSpec)

/-- ITS FALSE NEIGHBOUR: 'it returns false'. Refute it at one input. -/
def mobAtWrong : ChangeSpec := { name := "mobAt", fn := fun _ => fun
  | [d1, d2] => { results := [.lit (.bool false)], args := [d1, d2] }
  | _ => none }
def MobAtWrongFalsely : Prop := mobAtRow.holds Tryz.pinned (OpenSpec.ofChange mobAtWrong)

/-- 'tracerylaw08.MobTold': WHATEVER THE INPUT: true; the input reads as it did. -/
def mobToldSpec : ChangeSpec := { name := "mobTold", fn := fun _ => fun
  | [d1, d2, d3] => { results := [.lit (.bool true)], args := [d1, d2, d3] }
  | _ => none }
def mobToldRow : OpenClaim := { program := "ytmfedaakeeiolaagreat", sum := "4a9b2012b8295ea9817aff3118ecb5fde452e1337c06b6c338ba9c9a2acf2ec0", func := "tracery/tracerylaw08.MobTold", spec := "mobTold", unfollowed := true, recurses := true, plainKeys := false, apart := false }
def MobToldSaid : Prop := mobToldRow.holds Tryz.pinned (OpenSpec.ofChange mobToldSpec)

/-- ITS FALSE NEIGHBOUR: 'it returns false'. Refute it at one input. -/
def mobToldWrong : ChangeSpec := { name := "mobTold", fn := fun _ => fun
  | [d1, d2, d3] => { results := [.lit (.bool false)], args := [d1, d2, d3] }
  | _ => none }
def MobToldWrongFalsely : Prop := mobToldRow.holds Tryz.pinned (OpenSpec.ofChange mobToldWrong)

/-- 'tracerylaw11.CircTogether': WHATEVER THE INPUT: true; the input reads as it did. -/
def circTogetherSpec : ChangeSpec := { name := "circTogether", fn := fun _ => fun
  | [d] => { results := [.lit (.bool true)], args := [d] }
  | _ => none }
def circTogetherRow : OpenClaim := { program := "ytmfedaakeeiolaagreat", sum := "4a9b2012b8295ea9817aff3118ecb5fde452e1337c06b6c338ba9c9a2acf2ec0", func := "tracery/tracerylaw11.CircTogether", spec := "circTogether", inPlace := ["internal/abi.NoEscape", "internal/bytealg.MakeNoZero"], unfollowed := true, recurses := true, plainKeys := false, apart := false }
def CircTogetherSaid : Prop := circTogetherRow.holds Tryz.pinned (OpenSpec.ofChange circTogetherSpec)

/-- ITS FALSE NEIGHBOUR: 'it returns false'. Refute it at one input. -/
def circTogetherWrong : ChangeSpec := { name := "circTogether", fn := fun _ => fun
  | [d] => { results := [.lit (.bool false)], args := [d] }
  | _ => none }
def CircTogetherWrongFalsely : Prop := circTogetherRow.holds Tryz.pinned (OpenSpec.ofChange circTogetherWrong)

/-- 'tracerylaw11.CircTells': WHATEVER THE INPUT: true; the input reads as it did. -/
def circTellsSpec : ChangeSpec := { name := "circTells", fn := fun _ => fun
  | [d1, d2, d3] => { results := [.lit (.bool true)], args := [d1, d2, d3] }
  | _ => none }
def circTellsRow : OpenClaim := { program := "ytmfedaakeeiolaagreat", sum := "4a9b2012b8295ea9817aff3118ecb5fde452e1337c06b6c338ba9c9a2acf2ec0", func := "tracery/tracerylaw11.CircTells", spec := "circTells", inPlace := ["internal/abi.NoEscape", "internal/bytealg.MakeNoZero"], unfollowed := true, recurses := true, plainKeys := false, apart := false }
def CircTellsSaid : Prop := circTellsRow.holds Tryz.pinned (OpenSpec.ofChange circTellsSpec)

/-- ITS FALSE NEIGHBOUR: 'it returns false'. Refute it at one input. -/
def circTellsWrong : ChangeSpec := { name := "circTells", fn := fun _ => fun
  | [d1, d2, d3] => { results := [.lit (.bool false)], args := [d1, d2, d3] }
  | _ => none }
def CircTellsWrongFalsely : Prop := circTellsRow.holds Tryz.pinned (OpenSpec.ofChange circTellsWrong)

/-- 'tracerylaw11.CircImages': WHATEVER THE INPUT: true; the input reads as it did. -/
def circImagesSpec : ChangeSpec := { name := "circImages", fn := fun _ => fun
  | [d1, d2] => { results := [.lit (.bool true)], args := [d1, d2] }
  | _ => none }
def circImagesRow : OpenClaim := { program := "ytmfedaakeeiolaagreat", sum := "4a9b2012b8295ea9817aff3118ecb5fde452e1337c06b6c338ba9c9a2acf2ec0", func := "tracery/tracerylaw11.CircImages", spec := "circImages", inPlace := ["internal/abi.NoEscape", "internal/bytealg.MakeNoZero"], unfollowed := true, recurses := true, plainKeys := false, apart := false }
def CircImagesSaid : Prop := circImagesRow.holds Tryz.pinned (OpenSpec.ofChange circImagesSpec)

/-- ITS FALSE NEIGHBOUR: 'it returns false'. Refute it at one input. -/
def circImagesWrong : ChangeSpec := { name := "circImages", fn := fun _ => fun
  | [d1, d2] => { results := [.lit (.bool false)], args := [d1, d2] }
  | _ => none }
def CircImagesWrongFalsely : Prop := circImagesRow.holds Tryz.pinned (OpenSpec.ofChange circImagesWrong)

/-- 'tracerylaw07.SphereNames': WHATEVER THE INPUT: true; the input reads as it did. -/
def sphereNamesSpec : ChangeSpec := { name := "sphereNames", fn := fun _ => fun
  | [] => { results := [.lit (.bool true)], args := [] }
  | _ => none }
def sphereNamesRow : OpenClaim := { program := "ytmfedaakeeiolaagreat", sum := "4a9b2012b8295ea9817aff3118ecb5fde452e1337c06b6c338ba9c9a2acf2ec0", func := "tracery/tracerylaw07.SphereNames", spec := "sphereNames", unfollowed := true, recurses := true, plainKeys := false, apart := false }
def SphereNamesSaid : Prop := sphereNamesRow.holds Tryz.pinned (OpenSpec.ofChange sphereNamesSpec)

/-- ITS FALSE NEIGHBOUR: 'it returns false'. Refute it at one input. -/
def sphereNamesWrong : ChangeSpec := { name := "sphereNames", fn := fun _ => fun
  | [] => { results := [.lit (.bool false)], args := [] }
  | _ => none }
def SphereNamesWrongFalsely : Prop := sphereNamesRow.holds Tryz.pinned (OpenSpec.ofChange sphereNamesWrong)

/- THE SECOND FORM. 'bulk': how many values and letters a reading holds, each counted each time it is reached (what is shared counts as often as it is met; a slice's spare places count too). A statement '..UptoSaid' is the law's where the arguments, and the package variables that the reading takes, are together of bulk at most 1048576: NARROWER than '..Said'. Prove '..Said' where nothing that the law and all that it calls make is longer than what came in: it says more and counts as full. Else prove '..UptoSaid'. A law counts once. -/
mutual
def uptoBulk {H : Type} : DataW H → Nat
  | .lit (.string bytes) => bytes.length + 1
  | .lit _ => 1
  | .nil => 1
  | .ptr d => uptoBulk d + 1
  | .slice elems spare => uptoBulkAll elems + uptoBulkAll spare + 1
  | .agg parts => uptoBulkAll parts + 1
  | .iface _ d => uptoBulk d + 1
  | .map entries => uptoBulkEntries entries + 1
  | .held _ => 1
def uptoBulkAll {H : Type} : List (DataW H) → Nat
  | [] => 0
  | d :: r => uptoBulk d + uptoBulkAll r
def uptoBulkEntries {H : Type} : List (Lit × DataW H) → Nat
  | [] => 0
  | x :: r => uptoBulkEntry x + uptoBulkEntries r
def uptoBulkEntry {H : Type} : Lit × DataW H → Nat
  | (.string bytes, d) => bytes.length + uptoBulk d + 1
  | (_, d) => uptoBulk d + 1
 end
def uptoSmall : (H : Type) → List (DataW H) → Bool := fun _ ds => decide (uptoBulkAll ds ≤ 1048576)
def OpenSpec.upto (s : _root_.Go.ChangeSpec) : _root_.Go.OpenSpec := { _root_.Go.OpenSpec.ofChange s with cond := some uptoSmall }

/-- 'tracerylaw03.FracSimple', WHERE WHAT IT READS IS OF BULK AT MOST 1048576: true; the input reads as it did. -/
def fracSimpleUptoRow : OpenClaim := { program := "ytmfedaakeeiolaagreat", sum := "4a9b2012b8295ea9817aff3118ecb5fde452e1337c06b6c338ba9c9a2acf2ec0", func := "tracery/tracerylaw03.FracSimple", spec := "fracSimple", unfollowed := true, recurses := true, plainKeys := false, apart := false, narrowed := true }
def FracSimpleUptoSaid : Prop := fracSimpleUptoRow.holds Tryz.pinned (OpenSpec.upto fracSimpleSpec)

/-- 'tracerylaw08.MobPowers', WHERE WHAT IT READS IS OF BULK AT MOST 1048576: true; the input reads as it did. -/
def mobPowersUptoRow : OpenClaim := { program := "ytmfedaakeeiolaagreat", sum := "4a9b2012b8295ea9817aff3118ecb5fde452e1337c06b6c338ba9c9a2acf2ec0", func := "tracery/tracerylaw08.MobPowers", spec := "mobPowers", recurses := true, plainKeys := false, apart := false, narrowed := true }
def MobPowersUptoSaid : Prop := mobPowersUptoRow.holds Tryz.pinned (OpenSpec.upto mobPowersSpec)

/-- 'tracerylaw08.MobOrbit', WHERE WHAT IT READS IS OF BULK AT MOST 1048576: true; the input reads as it did. -/
def mobOrbitUptoRow : OpenClaim := { program := "ytmfedaakeeiolaagreat", sum := "4a9b2012b8295ea9817aff3118ecb5fde452e1337c06b6c338ba9c9a2acf2ec0", func := "tracery/tracerylaw08.MobOrbit", spec := "mobOrbit", unfollowed := true, recurses := true, plainKeys := false, apart := false, narrowed := true }
def MobOrbitUptoSaid : Prop := mobOrbitUptoRow.holds Tryz.pinned (OpenSpec.upto mobOrbitSpec)

/-- 'tracerylaw08.MobRow', WHERE WHAT IT READS IS OF BULK AT MOST 1048576: true; the input reads as it did. -/
def mobRowUptoRow : OpenClaim := { program := "ytmfedaakeeiolaagreat", sum := "4a9b2012b8295ea9817aff3118ecb5fde452e1337c06b6c338ba9c9a2acf2ec0", func := "tracery/tracerylaw08.MobRow", spec := "mobRow", unfollowed := true, recurses := true, plainKeys := false, apart := false, narrowed := true }
def MobRowUptoSaid : Prop := mobRowUptoRow.holds Tryz.pinned (OpenSpec.upto mobRowSpec)

/-- 'tracerylaw04.GaussPowers', WHERE WHAT IT READS IS OF BULK AT MOST 1048576: true; the input reads as it did. -/
def gaussPowersUptoRow : OpenClaim := { program := "ytmfedaakeeiolaagreat", sum := "4a9b2012b8295ea9817aff3118ecb5fde452e1337c06b6c338ba9c9a2acf2ec0", func := "tracery/tracerylaw04.GaussPowers", spec := "gaussPowers", unfollowed := true, recurses := true, plainKeys := false, apart := false, narrowed := true }
def GaussPowersUptoSaid : Prop := gaussPowersUptoRow.holds Tryz.pinned (OpenSpec.upto gaussPowersSpec)

/-- 'tracerylaw04.GaussLists', WHERE WHAT IT READS IS OF BULK AT MOST 1048576: true; the input reads as it did. -/
def gaussListsUptoRow : OpenClaim := { program := "ytmfedaakeeiolaagreat", sum := "4a9b2012b8295ea9817aff3118ecb5fde452e1337c06b6c338ba9c9a2acf2ec0", func := "tracery/tracerylaw04.GaussLists", spec := "gaussLists", unfollowed := true, recurses := true, plainKeys := false, apart := false, narrowed := true }
def GaussListsUptoSaid : Prop := gaussListsUptoRow.holds Tryz.pinned (OpenSpec.upto gaussListsSpec)

/-- 'tracerylaw08.MobAt', WHERE WHAT IT READS IS OF BULK AT MOST 1048576: true; the input reads as it did. -/
def mobAtUptoRow : OpenClaim := { program := "ytmfedaakeeiolaagreat", sum := "4a9b2012b8295ea9817aff3118ecb5fde452e1337c06b6c338ba9c9a2acf2ec0", func := "tracery/tracerylaw08.MobAt", spec := "mobAt", unfollowed := true, recurses := true, plainKeys := false, apart := false, narrowed := true }
def MobAtUptoSaid : Prop := mobAtUptoRow.holds Tryz.pinned (OpenSpec.upto mobAtSpec)

/-- 'tracerylaw08.MobTold', WHERE WHAT IT READS IS OF BULK AT MOST 1048576: true; the input reads as it did. -/
def mobToldUptoRow : OpenClaim := { program := "ytmfedaakeeiolaagreat", sum := "4a9b2012b8295ea9817aff3118ecb5fde452e1337c06b6c338ba9c9a2acf2ec0", func := "tracery/tracerylaw08.MobTold", spec := "mobTold", unfollowed := true, recurses := true, plainKeys := false, apart := false, narrowed := true }
def MobToldUptoSaid : Prop := mobToldUptoRow.holds Tryz.pinned (OpenSpec.upto mobToldSpec)

/-- 'tracerylaw11.CircTogether', WHERE WHAT IT READS IS OF BULK AT MOST 1048576: true; the input reads as it did. -/
def circTogetherUptoRow : OpenClaim := { program := "ytmfedaakeeiolaagreat", sum := "4a9b2012b8295ea9817aff3118ecb5fde452e1337c06b6c338ba9c9a2acf2ec0", func := "tracery/tracerylaw11.CircTogether", spec := "circTogether", inPlace := ["internal/abi.NoEscape", "internal/bytealg.MakeNoZero"], unfollowed := true, recurses := true, plainKeys := false, apart := false, narrowed := true }
def CircTogetherUptoSaid : Prop := circTogetherUptoRow.holds Tryz.pinned (OpenSpec.upto circTogetherSpec)

/-- 'tracerylaw11.CircTells', WHERE WHAT IT READS IS OF BULK AT MOST 1048576: true; the input reads as it did. -/
def circTellsUptoRow : OpenClaim := { program := "ytmfedaakeeiolaagreat", sum := "4a9b2012b8295ea9817aff3118ecb5fde452e1337c06b6c338ba9c9a2acf2ec0", func := "tracery/tracerylaw11.CircTells", spec := "circTells", inPlace := ["internal/abi.NoEscape", "internal/bytealg.MakeNoZero"], unfollowed := true, recurses := true, plainKeys := false, apart := false, narrowed := true }
def CircTellsUptoSaid : Prop := circTellsUptoRow.holds Tryz.pinned (OpenSpec.upto circTellsSpec)

/-- 'tracerylaw11.CircImages', WHERE WHAT IT READS IS OF BULK AT MOST 1048576: true; the input reads as it did. -/
def circImagesUptoRow : OpenClaim := { program := "ytmfedaakeeiolaagreat", sum := "4a9b2012b8295ea9817aff3118ecb5fde452e1337c06b6c338ba9c9a2acf2ec0", func := "tracery/tracerylaw11.CircImages", spec := "circImages", inPlace := ["internal/abi.NoEscape", "internal/bytealg.MakeNoZero"], unfollowed := true, recurses := true, plainKeys := false, apart := false, narrowed := true }
def CircImagesUptoSaid : Prop := circImagesUptoRow.holds Tryz.pinned (OpenSpec.upto circImagesSpec)

/-- 'tracerylaw07.SphereNames', WHERE WHAT IT READS IS OF BULK AT MOST 1048576: true; the input reads as it did. -/
def sphereNamesUptoRow : OpenClaim := { program := "ytmfedaakeeiolaagreat", sum := "4a9b2012b8295ea9817aff3118ecb5fde452e1337c06b6c338ba9c9a2acf2ec0", func := "tracery/tracerylaw07.SphereNames", spec := "sphereNames", unfollowed := true, recurses := true, plainKeys := false, apart := false, narrowed := true }
def SphereNamesUptoSaid : Prop := sphereNamesUptoRow.holds Tryz.pinned (OpenSpec.upto sphereNamesSpec)

end Rows
end Go.Proofs.YtmfedaakeeiolaaGreat
