/-
  No cell of these rows narrows 'for every input' (looked for: loops, veiled, ifaces, maps, wideKeys, modest, calm, conditions, laid).
  DERIVED. THE GIVEN ROWS OF THIS SEAT. 11 by the template 'for every input the law returns true; each argument reads behind the call as it read before'; 0 by the template 'total and deterministic' (their statements: YtbepimnlleilfaaGreatTotals.lean).
  GIVEN WITH THE SEED: the statements are not yours to turn. If you find one false, say at which input.
  Laid BY PROGRAM, IN A SANDBOX (cutbox-rows.mjs): the forced cells as the released guide's own fill.sh prints them over the translation 75f1add93d334b24… (all of the seat's roots in one cut). By AI agents, Wed Nov 11 2026. No macro, syntax, notation, axiom, sorry.
-/
import Derived.Test.YtbepimnlleilfaaGreatChecked
import GoSem.Claim
import GoSem.ClaimJoined
import GoSem.ClaimMapViews
import Derived.JoinedTies
import Derived.KernelRfl
namespace Go.Proofs.YtbepimnlleilfaaGreat
/- THE CELL 'sum', in the pinned program and in every row, IS THE sha256 OF THE DUMP (.gsa) THAT YtbepimnlleilfaaGreatProg.lean LOADS. Nothing in Lean hashes anything: it is a label: what it is worth is what the hold of that sum in a sandbox is worth. -/
noncomputable def Tryz.pinned : Pinned := { name := "ytbepimnlleilfaagreat", sum := "75f1add93d334b2446f11ed35260b2cc2b39b87b341eb1ff0e36908b52b9ae37", checked := Tryz.checked }
namespace Rows
def none {H : Type} : Left H := { results := [], args := [] }

/-- 'tracerylaw03.FracQuotients': WHATEVER THE INPUT: true; the input reads as it did. -/
def fracQuotientsSpec : ChangeSpec := { name := "fracQuotients", fn := fun _ => fun
  | [d1, d2, d3] => { results := [.lit (.bool true)], args := [d1, d2, d3] }
  | _ => none }
def fracQuotientsRow : OpenClaim := { program := "ytbepimnlleilfaagreat", sum := "75f1add93d334b2446f11ed35260b2cc2b39b87b341eb1ff0e36908b52b9ae37", func := "tracery/tracerylaw03.FracQuotients", spec := "fracQuotients", unfollowed := true, recurses := true, plainKeys := false, apart := false }
def FracQuotientsSaid : Prop := fracQuotientsRow.holds Tryz.pinned (OpenSpec.ofChange fracQuotientsSpec)

/-- ITS FALSE NEIGHBOUR: 'it returns false'. Refute it at one input. -/
def fracQuotientsWrong : ChangeSpec := { name := "fracQuotients", fn := fun _ => fun
  | [d1, d2, d3] => { results := [.lit (.bool false)], args := [d1, d2, d3] }
  | _ => none }
def FracQuotientsWrongFalsely : Prop := fracQuotientsRow.holds Tryz.pinned (OpenSpec.ofChange fracQuotientsWrong)

/-- 'tracerylaw03.FracSimple': WHATEVER THE INPUT: true; the input reads as it did. -/
def fracSimpleSpec : ChangeSpec := { name := "fracSimple", fn := fun _ => fun
  | [d1, d2] => { results := [.lit (.bool true)], args := [d1, d2] }
  | _ => none }
def fracSimpleRow : OpenClaim := { program := "ytbepimnlleilfaagreat", sum := "75f1add93d334b2446f11ed35260b2cc2b39b87b341eb1ff0e36908b52b9ae37", func := "tracery/tracerylaw03.FracSimple", spec := "fracSimple", unfollowed := true, recurses := true, plainKeys := false, apart := false }
def FracSimpleSaid : Prop := fracSimpleRow.holds Tryz.pinned (OpenSpec.ofChange fracSimpleSpec)

/-- ITS FALSE NEIGHBOUR: 'it returns false'. Refute it at one input. -/
def fracSimpleWrong : ChangeSpec := { name := "fracSimple", fn := fun _ => fun
  | [d1, d2] => { results := [.lit (.bool false)], args := [d1, d2] }
  | _ => none }
def FracSimpleWrongFalsely : Prop := fracSimpleRow.holds Tryz.pinned (OpenSpec.ofChange fracSimpleWrong)

/-- 'tracerylaw08.MobPowers': WHATEVER THE INPUT: true; the input reads as it did. -/
def mobPowersSpec : ChangeSpec := { name := "mobPowers", fn := fun _ => fun
  | [d1, d2] => { results := [.lit (.bool true)], args := [d1, d2] }
  | _ => none }
def mobPowersRow : OpenClaim := { program := "ytbepimnlleilfaagreat", sum := "75f1add93d334b2446f11ed35260b2cc2b39b87b341eb1ff0e36908b52b9ae37", func := "tracery/tracerylaw08.MobPowers", spec := "mobPowers", recurses := true, plainKeys := false, apart := false }
def MobPowersSaid : Prop := mobPowersRow.holds Tryz.pinned (OpenSpec.ofChange mobPowersSpec)

/-- ITS FALSE NEIGHBOUR: 'it returns false'. Refute it at one input. -/
def mobPowersWrong : ChangeSpec := { name := "mobPowers", fn := fun _ => fun
  | [d1, d2] => { results := [.lit (.bool false)], args := [d1, d2] }
  | _ => none }
def MobPowersWrongFalsely : Prop := mobPowersRow.holds Tryz.pinned (OpenSpec.ofChange mobPowersWrong)

/-- 'tracerylaw08.MobOrbit': WHATEVER THE INPUT: true; the input reads as it did. -/
def mobOrbitSpec : ChangeSpec := { name := "mobOrbit", fn := fun _ => fun
  | [d] => { results := [.lit (.bool true)], args := [d] }
  | _ => none }
def mobOrbitRow : OpenClaim := { program := "ytbepimnlleilfaagreat", sum := "75f1add93d334b2446f11ed35260b2cc2b39b87b341eb1ff0e36908b52b9ae37", func := "tracery/tracerylaw08.MobOrbit", spec := "mobOrbit", unfollowed := true, recurses := true, plainKeys := false, apart := false }
def MobOrbitSaid : Prop := mobOrbitRow.holds Tryz.pinned (OpenSpec.ofChange mobOrbitSpec)

/-- ITS FALSE NEIGHBOUR: 'it returns false'. Refute it at one input. -/
def mobOrbitWrong : ChangeSpec := { name := "mobOrbit", fn := fun _ => fun
  | [d] => { results := [.lit (.bool false)], args := [d] }
  | _ => none }
def MobOrbitWrongFalsely : Prop := mobOrbitRow.holds Tryz.pinned (OpenSpec.ofChange mobOrbitWrong)

/-- 'tracerylaw08.MobRow': WHATEVER THE INPUT: true; the input reads as it did. -/
def mobRowSpec : ChangeSpec := { name := "mobRow", fn := fun _ => fun
  | [d] => { results := [.lit (.bool true)], args := [d] }
  | _ => none }
def mobRowRow : OpenClaim := { program := "ytbepimnlleilfaagreat", sum := "75f1add93d334b2446f11ed35260b2cc2b39b87b341eb1ff0e36908b52b9ae37", func := "tracery/tracerylaw08.MobRow", spec := "mobRow", unfollowed := true, recurses := true, plainKeys := false, apart := false }
def MobRowSaid : Prop := mobRowRow.holds Tryz.pinned (OpenSpec.ofChange mobRowSpec)

/-- ITS FALSE NEIGHBOUR: 'it returns false'. Refute it at one input. -/
def mobRowWrong : ChangeSpec := { name := "mobRow", fn := fun _ => fun
  | [d] => { results := [.lit (.bool false)], args := [d] }
  | _ => none }
def MobRowWrongFalsely : Prop := mobRowRow.holds Tryz.pinned (OpenSpec.ofChange mobRowWrong)

/-- 'tracerylaw08.MobTold': WHATEVER THE INPUT: true; the input reads as it did. -/
def mobToldSpec : ChangeSpec := { name := "mobTold", fn := fun _ => fun
  | [d1, d2, d3] => { results := [.lit (.bool true)], args := [d1, d2, d3] }
  | _ => none }
def mobToldRow : OpenClaim := { program := "ytbepimnlleilfaagreat", sum := "75f1add93d334b2446f11ed35260b2cc2b39b87b341eb1ff0e36908b52b9ae37", func := "tracery/tracerylaw08.MobTold", spec := "mobTold", unfollowed := true, recurses := true, plainKeys := false, apart := false }
def MobToldSaid : Prop := mobToldRow.holds Tryz.pinned (OpenSpec.ofChange mobToldSpec)

/-- ITS FALSE NEIGHBOUR: 'it returns false'. Refute it at one input. -/
def mobToldWrong : ChangeSpec := { name := "mobTold", fn := fun _ => fun
  | [d1, d2, d3] => { results := [.lit (.bool false)], args := [d1, d2, d3] }
  | _ => none }
def MobToldWrongFalsely : Prop := mobToldRow.holds Tryz.pinned (OpenSpec.ofChange mobToldWrong)

/-- 'tracerylaw11.CircTogether': WHATEVER THE INPUT: true; the input reads as it did. -/
def circTogetherSpec : ChangeSpec := { name := "circTogether", fn := fun _ => fun
  | [d] => { results := [.lit (.bool true)], args := [d] }
  | _ => none }
def circTogetherRow : OpenClaim := { program := "ytbepimnlleilfaagreat", sum := "75f1add93d334b2446f11ed35260b2cc2b39b87b341eb1ff0e36908b52b9ae37", func := "tracery/tracerylaw11.CircTogether", spec := "circTogether", inPlace := ["internal/abi.NoEscape", "internal/bytealg.MakeNoZero"], unfollowed := true, recurses := true, plainKeys := false, apart := false }
def CircTogetherSaid : Prop := circTogetherRow.holds Tryz.pinned (OpenSpec.ofChange circTogetherSpec)

/-- ITS FALSE NEIGHBOUR: 'it returns false'. Refute it at one input. -/
def circTogetherWrong : ChangeSpec := { name := "circTogether", fn := fun _ => fun
  | [d] => { results := [.lit (.bool false)], args := [d] }
  | _ => none }
def CircTogetherWrongFalsely : Prop := circTogetherRow.holds Tryz.pinned (OpenSpec.ofChange circTogetherWrong)

/-- 'tracerylaw11.CircTells': WHATEVER THE INPUT: true; the input reads as it did. -/
def circTellsSpec : ChangeSpec := { name := "circTells", fn := fun _ => fun
  | [d1, d2, d3] => { results := [.lit (.bool true)], args := [d1, d2, d3] }
  | _ => none }
def circTellsRow : OpenClaim := { program := "ytbepimnlleilfaagreat", sum := "75f1add93d334b2446f11ed35260b2cc2b39b87b341eb1ff0e36908b52b9ae37", func := "tracery/tracerylaw11.CircTells", spec := "circTells", inPlace := ["internal/abi.NoEscape", "internal/bytealg.MakeNoZero"], unfollowed := true, recurses := true, plainKeys := false, apart := false }
def CircTellsSaid : Prop := circTellsRow.holds Tryz.pinned (OpenSpec.ofChange circTellsSpec)

/-- ITS FALSE NEIGHBOUR: 'it returns false'. Refute it at one input. -/
def circTellsWrong : ChangeSpec := { name := "circTells", fn := fun _ => fun
  | [d1, d2, d3] => { results := [.lit (.bool false)], args := [d1, d2, d3] }
  | _ => none }
def CircTellsWrongFalsely : Prop := circTellsRow.holds Tryz.pinned (OpenSpec.ofChange circTellsWrong)

/-- 'tracerylaw07.SphereLists': WHATEVER THE INPUT: true; the input reads as it did. -/
def sphereListsSpec : ChangeSpec := { name := "sphereLists", fn := fun _ => fun
  | [d1, d2] => { results := [.lit (.bool true)], args := [d1, d2] }
  | _ => none }
def sphereListsRow : OpenClaim := { program := "ytbepimnlleilfaagreat", sum := "75f1add93d334b2446f11ed35260b2cc2b39b87b341eb1ff0e36908b52b9ae37", func := "tracery/tracerylaw07.SphereLists", spec := "sphereLists", unfollowed := true, recurses := true, plainKeys := false, apart := false }
def SphereListsSaid : Prop := sphereListsRow.holds Tryz.pinned (OpenSpec.ofChange sphereListsSpec)

/-- ITS FALSE NEIGHBOUR: 'it returns false'. Refute it at one input. -/
def sphereListsWrong : ChangeSpec := { name := "sphereLists", fn := fun _ => fun
  | [d1, d2] => { results := [.lit (.bool false)], args := [d1, d2] }
  | _ => none }
def SphereListsWrongFalsely : Prop := sphereListsRow.holds Tryz.pinned (OpenSpec.ofChange sphereListsWrong)

/-- 'tracerylaw10.CrossRatio': WHATEVER THE INPUT: true; the input reads as it did. -/
def crossRatioSpec : ChangeSpec := { name := "crossRatio", fn := fun _ => fun
  | [d] => { results := [.lit (.bool true)], args := [d] }
  | _ => none }
def crossRatioRow : OpenClaim := { program := "ytbepimnlleilfaagreat", sum := "75f1add93d334b2446f11ed35260b2cc2b39b87b341eb1ff0e36908b52b9ae37", func := "tracery/tracerylaw10.CrossRatio", spec := "crossRatio", unfollowed := true, recurses := true, plainKeys := false, apart := false }
def CrossRatioSaid : Prop := crossRatioRow.holds Tryz.pinned (OpenSpec.ofChange crossRatioSpec)

/-- ITS FALSE NEIGHBOUR: 'it returns false'. Refute it at one input. -/
def crossRatioWrong : ChangeSpec := { name := "crossRatio", fn := fun _ => fun
  | [d] => { results := [.lit (.bool false)], args := [d] }
  | _ => none }
def CrossRatioWrongFalsely : Prop := crossRatioRow.holds Tryz.pinned (OpenSpec.ofChange crossRatioWrong)

/-- 'tracerylaw10.CrossOrders': WHATEVER THE INPUT: true; the input reads as it did. -/
def crossOrdersSpec : ChangeSpec := { name := "crossOrders", fn := fun _ => fun
  | [d] => { results := [.lit (.bool true)], args := [d] }
  | _ => none }
def crossOrdersRow : OpenClaim := { program := "ytbepimnlleilfaagreat", sum := "75f1add93d334b2446f11ed35260b2cc2b39b87b341eb1ff0e36908b52b9ae37", func := "tracery/tracerylaw10.CrossOrders", spec := "crossOrders", unfollowed := true, recurses := true, plainKeys := false, apart := false }
def CrossOrdersSaid : Prop := crossOrdersRow.holds Tryz.pinned (OpenSpec.ofChange crossOrdersSpec)

/-- ITS FALSE NEIGHBOUR: 'it returns false'. Refute it at one input. -/
def crossOrdersWrong : ChangeSpec := { name := "crossOrders", fn := fun _ => fun
  | [d] => { results := [.lit (.bool false)], args := [d] }
  | _ => none }
def CrossOrdersWrongFalsely : Prop := crossOrdersRow.holds Tryz.pinned (OpenSpec.ofChange crossOrdersWrong)

/- THE SECOND FORM. 'bulk': how many values and letters a reading holds, each counted each time it is reached (what is shared counts as often as it is met; a slice's spare places count too). A statement '..UptoSaid' is the law's where the arguments, and the package variables that the reading takes, are together of bulk at most 1048576: NARROWER than '..Said'. Prove '..Said' where nothing that the law and all that it calls make is longer than what came in: it says more and counts as full. Else prove '..UptoSaid'. A law counts once. -/
mutual
def uptoBulk {H : Type} : DataW H → Nat
  | .lit (.string bytes) => bytes.length + 1
  | .lit _ => 1
  | .nil => 1
  | .ptr d => uptoBulk d + 1
  | .slice elems spare => uptoBulkAll elems + uptoBulkAll spare + 1
  | .agg parts => uptoBulkAll parts + 1
  | .iface _ d => uptoBulk d + 1
  | .map entries => uptoBulkEntries entries + 1
  | .held _ => 1
def uptoBulkAll {H : Type} : List (DataW H) → Nat
  | [] => 0
  | d :: r => uptoBulk d + uptoBulkAll r
def uptoBulkEntries {H : Type} : List (Lit × DataW H) → Nat
  | [] => 0
  | x :: r => uptoBulkEntry x + uptoBulkEntries r
def uptoBulkEntry {H : Type} : Lit × DataW H → Nat
  | (.string bytes, d) => bytes.length + uptoBulk d + 1
  | (_, d) => uptoBulk d + 1
 end
def uptoSmall : (H : Type) → List (DataW H) → Bool := fun _ ds => decide (uptoBulkAll ds ≤ 1048576)
def OpenSpec.upto (s : _root_.Go.ChangeSpec) : _root_.Go.OpenSpec := { _root_.Go.OpenSpec.ofChange s with cond := some uptoSmall }

/-- 'tracerylaw03.FracQuotients', WHERE WHAT IT READS IS OF BULK AT MOST 1048576: true; the input reads as it did. -/
def fracQuotientsUptoRow : OpenClaim := { program := "ytbepimnlleilfaagreat", sum := "75f1add93d334b2446f11ed35260b2cc2b39b87b341eb1ff0e36908b52b9ae37", func := "tracery/tracerylaw03.FracQuotients", spec := "fracQuotients", unfollowed := true, recurses := true, plainKeys := false, apart := false, narrowed := true }
def FracQuotientsUptoSaid : Prop := fracQuotientsUptoRow.holds Tryz.pinned (OpenSpec.upto fracQuotientsSpec)

/-- 'tracerylaw03.FracSimple', WHERE WHAT IT READS IS OF BULK AT MOST 1048576: true; the input reads as it did. -/
def fracSimpleUptoRow : OpenClaim := { program := "ytbepimnlleilfaagreat", sum := "75f1add93d334b2446f11ed35260b2cc2b39b87b341eb1ff0e36908b52b9ae37", func := "tracery/tracerylaw03.FracSimple", spec := "fracSimple", unfollowed := true, recurses := true, plainKeys := false, apart := false, narrowed := true }
def FracSimpleUptoSaid : Prop := fracSimpleUptoRow.holds Tryz.pinned (OpenSpec.upto fracSimpleSpec)

/-- 'tracerylaw08.MobPowers', WHERE WHAT IT READS IS OF BULK AT MOST 1048576: true; the input reads as it did. -/
def mobPowersUptoRow : OpenClaim := { program := "ytbepimnlleilfaagreat", sum := "75f1add93d334b2446f11ed35260b2cc2b39b87b341eb1ff0e36908b52b9ae37", func := "tracery/tracerylaw08.MobPowers", spec := "mobPowers", recurses := true, plainKeys := false, apart := false, narrowed := true }
def MobPowersUptoSaid : Prop := mobPowersUptoRow.holds Tryz.pinned (OpenSpec.upto mobPowersSpec)

/-- 'tracerylaw08.MobOrbit', WHERE WHAT IT READS IS OF BULK AT MOST 1048576: true; the input reads as it did. -/
def mobOrbitUptoRow : OpenClaim := { program := "ytbepimnlleilfaagreat", sum := "75f1add93d334b2446f11ed35260b2cc2b39b87b341eb1ff0e36908b52b9ae37", func := "tracery/tracerylaw08.MobOrbit", spec := "mobOrbit", unfollowed := true, recurses := true, plainKeys := false, apart := false, narrowed := true }
def MobOrbitUptoSaid : Prop := mobOrbitUptoRow.holds Tryz.pinned (OpenSpec.upto mobOrbitSpec)

/-- 'tracerylaw08.MobRow', WHERE WHAT IT READS IS OF BULK AT MOST 1048576: true; the input reads as it did. -/
def mobRowUptoRow : OpenClaim := { program := "ytbepimnlleilfaagreat", sum := "75f1add93d334b2446f11ed35260b2cc2b39b87b341eb1ff0e36908b52b9ae37", func := "tracery/tracerylaw08.MobRow", spec := "mobRow", unfollowed := true, recurses := true, plainKeys := false, apart := false, narrowed := true }
def MobRowUptoSaid : Prop := mobRowUptoRow.holds Tryz.pinned (OpenSpec.upto mobRowSpec)

/-- 'tracerylaw08.MobTold', WHERE WHAT IT READS IS OF BULK AT MOST 1048576: true; the input reads as it did. -/
def mobToldUptoRow : OpenClaim := { program := "ytbepimnlleilfaagreat", sum := "75f1add93d334b2446f11ed35260b2cc2b39b87b341eb1ff0e36908b52b9ae37", func := "tracery/tracerylaw08.MobTold", spec := "mobTold", unfollowed := true, recurses := true, plainKeys := false, apart := false, narrowed := true }
def MobToldUptoSaid : Prop := mobToldUptoRow.holds Tryz.pinned (OpenSpec.upto mobToldSpec)

/-- 'tracerylaw11.CircTogether', WHERE WHAT IT READS IS OF BULK AT MOST 1048576: true; the input reads as it did. -/
def circTogetherUptoRow : OpenClaim := { program := "ytbepimnlleilfaagreat", sum := "75f1add93d334b2446f11ed35260b2cc2b39b87b341eb1ff0e36908b52b9ae37", func := "tracery/tracerylaw11.CircTogether", spec := "circTogether", inPlace := ["internal/abi.NoEscape", "internal/bytealg.MakeNoZero"], unfollowed := true, recurses := true, plainKeys := false, apart := false, narrowed := true }
def CircTogetherUptoSaid : Prop := circTogetherUptoRow.holds Tryz.pinned (OpenSpec.upto circTogetherSpec)

/-- 'tracerylaw11.CircTells', WHERE WHAT IT READS IS OF BULK AT MOST 1048576: true; the input reads as it did. -/
def circTellsUptoRow : OpenClaim := { program := "ytbepimnlleilfaagreat", sum := "75f1add93d334b2446f11ed35260b2cc2b39b87b341eb1ff0e36908b52b9ae37", func := "tracery/tracerylaw11.CircTells", spec := "circTells", inPlace := ["internal/abi.NoEscape", "internal/bytealg.MakeNoZero"], unfollowed := true, recurses := true, plainKeys := false, apart := false, narrowed := true }
def CircTellsUptoSaid : Prop := circTellsUptoRow.holds Tryz.pinned (OpenSpec.upto circTellsSpec)

/-- 'tracerylaw07.SphereLists', WHERE WHAT IT READS IS OF BULK AT MOST 1048576: true; the input reads as it did. -/
def sphereListsUptoRow : OpenClaim := { program := "ytbepimnlleilfaagreat", sum := "75f1add93d334b2446f11ed35260b2cc2b39b87b341eb1ff0e36908b52b9ae37", func := "tracery/tracerylaw07.SphereLists", spec := "sphereLists", unfollowed := true, recurses := true, plainKeys := false, apart := false, narrowed := true }
def SphereListsUptoSaid : Prop := sphereListsUptoRow.holds Tryz.pinned (OpenSpec.upto sphereListsSpec)

/-- 'tracerylaw10.CrossRatio', WHERE WHAT IT READS IS OF BULK AT MOST 1048576: true; the input reads as it did. -/
def crossRatioUptoRow : OpenClaim := { program := "ytbepimnlleilfaagreat", sum := "75f1add93d334b2446f11ed35260b2cc2b39b87b341eb1ff0e36908b52b9ae37", func := "tracery/tracerylaw10.CrossRatio", spec := "crossRatio", unfollowed := true, recurses := true, plainKeys := false, apart := false, narrowed := true }
def CrossRatioUptoSaid : Prop := crossRatioUptoRow.holds Tryz.pinned (OpenSpec.upto crossRatioSpec)

/-- 'tracerylaw10.CrossOrders', WHERE WHAT IT READS IS OF BULK AT MOST 1048576: true; the input reads as it did. -/
def crossOrdersUptoRow : OpenClaim := { program := "ytbepimnlleilfaagreat", sum := "75f1add93d334b2446f11ed35260b2cc2b39b87b341eb1ff0e36908b52b9ae37", func := "tracery/tracerylaw10.CrossOrders", spec := "crossOrders", unfollowed := true, recurses := true, plainKeys := false, apart := false, narrowed := true }
def CrossOrdersUptoSaid : Prop := crossOrdersUptoRow.holds Tryz.pinned (OpenSpec.upto crossOrdersSpec)

end Rows
end Go.Proofs.YtbepimnlleilfaaGreat
