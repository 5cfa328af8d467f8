/-
  No cell of these rows narrows 'for every input' (looked for: loops, veiled, ifaces, maps, wideKeys, modest, calm, conditions, laid).
  DERIVED. THE GIVEN ROWS OF THIS SEAT. 10 by the template 'for every input the law returns true; each argument reads behind the call as it read before'; 0 by the template 'total and deterministic' (their statements: YtiolbdleihiocaaGreatTotals.lean).
  GIVEN WITH THE SEED: the statements are not yours to turn. If you find one false, say at which input.
  Laid BY PROGRAM, IN A SANDBOX (cutbox-rows.mjs): the forced cells as the released guide's own fill.sh prints them over the translation f859a6bd086f04a3… (all of the seat's roots in one cut). By AI agents, Wed Nov 11 2026. No macro, syntax, notation, axiom, sorry.
-/
import Derived.Test.YtiolbdleihiocaaGreatChecked
import GoSem.Claim
import GoSem.ClaimJoined
import GoSem.ClaimMapViews
import Derived.JoinedTies
import Derived.KernelRfl
namespace Go.Proofs.YtiolbdleihiocaaGreat
/- THE CELL 'sum', in the pinned program and in every row, IS THE sha256 OF THE DUMP (.gsa) THAT YtiolbdleihiocaaGreatProg.lean LOADS. Nothing in Lean hashes anything: it is a label: what it is worth is what the hold of that sum in a sandbox is worth. -/
noncomputable def Tryz.pinned : Pinned := { name := "ytiolbdleihiocaagreat", sum := "f859a6bd086f04a3fa326dc860dcfe3cd2d1065a888a1c0b7c92411ee5402298", checked := Tryz.checked }
namespace Rows
def none {H : Type} : Left H := { results := [], args := [] }

/-- 'tracerylaw08.MobThree': WHATEVER THE INPUT: true; the input reads as it did. -/
def mobThreeSpec : ChangeSpec := { name := "mobThree", fn := fun _ => fun
  | [d1, d2, d3] => { results := [.lit (.bool true)], args := [d1, d2, d3] }
  | _ => none }
def mobThreeRow : OpenClaim := { program := "ytiolbdleihiocaagreat", sum := "f859a6bd086f04a3fa326dc860dcfe3cd2d1065a888a1c0b7c92411ee5402298", func := "tracery/tracerylaw08.MobThree", spec := "mobThree", recurses := true, plainKeys := false, apart := false }
def MobThreeSaid : Prop := mobThreeRow.holds Tryz.pinned (OpenSpec.ofChange mobThreeSpec)

/-- ITS FALSE NEIGHBOUR: 'it returns false'. Refute it at one input. -/
def mobThreeWrong : ChangeSpec := { name := "mobThree", fn := fun _ => fun
  | [d1, d2, d3] => { results := [.lit (.bool false)], args := [d1, d2, d3] }
  | _ => none }
def MobThreeWrongFalsely : Prop := mobThreeRow.holds Tryz.pinned (OpenSpec.ofChange mobThreeWrong)

/-- 'tracerylaw07.SphereTwo': WHATEVER THE INPUT: true; the input reads as it did. -/
def sphereTwoSpec : ChangeSpec := { name := "sphereTwo", fn := fun _ => fun
  | [d1, d2] => { results := [.lit (.bool true)], args := [d1, d2] }
  | _ => none }
def sphereTwoRow : OpenClaim := { program := "ytiolbdleihiocaagreat", sum := "f859a6bd086f04a3fa326dc860dcfe3cd2d1065a888a1c0b7c92411ee5402298", func := "tracery/tracerylaw07.SphereTwo", spec := "sphereTwo", unfollowed := true, recurses := true, plainKeys := false, apart := false }
def SphereTwoSaid : Prop := sphereTwoRow.holds Tryz.pinned (OpenSpec.ofChange sphereTwoSpec)

/-- ITS FALSE NEIGHBOUR: 'it returns false'. Refute it at one input. -/
def sphereTwoWrong : ChangeSpec := { name := "sphereTwo", fn := fun _ => fun
  | [d1, d2] => { results := [.lit (.bool false)], args := [d1, d2] }
  | _ => none }
def SphereTwoWrongFalsely : Prop := sphereTwoRow.holds Tryz.pinned (OpenSpec.ofChange sphereTwoWrong)

/-- 'tracerylaw08.MobPowers': WHATEVER THE INPUT: true; the input reads as it did. -/
def mobPowersSpec : ChangeSpec := { name := "mobPowers", fn := fun _ => fun
  | [d1, d2] => { results := [.lit (.bool true)], args := [d1, d2] }
  | _ => none }
def mobPowersRow : OpenClaim := { program := "ytiolbdleihiocaagreat", sum := "f859a6bd086f04a3fa326dc860dcfe3cd2d1065a888a1c0b7c92411ee5402298", func := "tracery/tracerylaw08.MobPowers", spec := "mobPowers", recurses := true, plainKeys := false, apart := false }
def MobPowersSaid : Prop := mobPowersRow.holds Tryz.pinned (OpenSpec.ofChange mobPowersSpec)

/-- ITS FALSE NEIGHBOUR: 'it returns false'. Refute it at one input. -/
def mobPowersWrong : ChangeSpec := { name := "mobPowers", fn := fun _ => fun
  | [d1, d2] => { results := [.lit (.bool false)], args := [d1, d2] }
  | _ => none }
def MobPowersWrongFalsely : Prop := mobPowersRow.holds Tryz.pinned (OpenSpec.ofChange mobPowersWrong)

/-- 'tracerylaw08.MobMakes': WHATEVER THE INPUT: true; the input reads as it did. -/
def mobMakesSpec : ChangeSpec := { name := "mobMakes", fn := fun _ => fun
  | [d] => { results := [.lit (.bool true)], args := [d] }
  | _ => none }
def mobMakesRow : OpenClaim := { program := "ytiolbdleihiocaagreat", sum := "f859a6bd086f04a3fa326dc860dcfe3cd2d1065a888a1c0b7c92411ee5402298", func := "tracery/tracerylaw08.MobMakes", spec := "mobMakes", recurses := true, plainKeys := false, apart := false }
def MobMakesSaid : Prop := mobMakesRow.holds Tryz.pinned (OpenSpec.ofChange mobMakesSpec)

/-- ITS FALSE NEIGHBOUR: 'it returns false'. Refute it at one input. -/
def mobMakesWrong : ChangeSpec := { name := "mobMakes", fn := fun _ => fun
  | [d] => { results := [.lit (.bool false)], args := [d] }
  | _ => none }
def MobMakesWrongFalsely : Prop := mobMakesRow.holds Tryz.pinned (OpenSpec.ofChange mobMakesWrong)

/-- 'tracerylaw10.CrossFourth': WHATEVER THE INPUT: true; the input reads as it did. -/
def crossFourthSpec : ChangeSpec := { name := "crossFourth", fn := fun _ => fun
  | [d] => { results := [.lit (.bool true)], args := [d] }
  | _ => none }
def crossFourthRow : OpenClaim := { program := "ytiolbdleihiocaagreat", sum := "f859a6bd086f04a3fa326dc860dcfe3cd2d1065a888a1c0b7c92411ee5402298", func := "tracery/tracerylaw10.CrossFourth", spec := "crossFourth", plainKeys := false, apart := false }
def CrossFourthSaid : Prop := crossFourthRow.holds Tryz.pinned (OpenSpec.ofChange crossFourthSpec)

/-- ITS FALSE NEIGHBOUR: 'it returns false'. Refute it at one input. -/
def crossFourthWrong : ChangeSpec := { name := "crossFourth", fn := fun _ => fun
  | [d] => { results := [.lit (.bool false)], args := [d] }
  | _ => none }
def CrossFourthWrongFalsely : Prop := crossFourthRow.holds Tryz.pinned (OpenSpec.ofChange crossFourthWrong)

/-- 'tracerylaw08.MobRow': WHATEVER THE INPUT: true; the input reads as it did. -/
def mobRowSpec : ChangeSpec := { name := "mobRow", fn := fun _ => fun
  | [d] => { results := [.lit (.bool true)], args := [d] }
  | _ => none }
def mobRowRow : OpenClaim := { program := "ytiolbdleihiocaagreat", sum := "f859a6bd086f04a3fa326dc860dcfe3cd2d1065a888a1c0b7c92411ee5402298", func := "tracery/tracerylaw08.MobRow", spec := "mobRow", unfollowed := true, recurses := true, plainKeys := false, apart := false }
def MobRowSaid : Prop := mobRowRow.holds Tryz.pinned (OpenSpec.ofChange mobRowSpec)

/-- ITS FALSE NEIGHBOUR: 'it returns false'. Refute it at one input. -/
def mobRowWrong : ChangeSpec := { name := "mobRow", fn := fun _ => fun
  | [d] => { results := [.lit (.bool false)], args := [d] }
  | _ => none }
def MobRowWrongFalsely : Prop := mobRowRow.holds Tryz.pinned (OpenSpec.ofChange mobRowWrong)

/-- 'tracerylaw10.CrossAlike': WHATEVER THE INPUT: true; the input reads as it did. -/
def crossAlikeSpec : ChangeSpec := { name := "crossAlike", fn := fun _ => fun
  | [d1, d2] => { results := [.lit (.bool true)], args := [d1, d2] }
  | _ => none }
def crossAlikeRow : OpenClaim := { program := "ytiolbdleihiocaagreat", sum := "f859a6bd086f04a3fa326dc860dcfe3cd2d1065a888a1c0b7c92411ee5402298", func := "tracery/tracerylaw10.CrossAlike", spec := "crossAlike", plainKeys := false, apart := false }
def CrossAlikeSaid : Prop := crossAlikeRow.holds Tryz.pinned (OpenSpec.ofChange crossAlikeSpec)

/-- ITS FALSE NEIGHBOUR: 'it returns false'. Refute it at one input. -/
def crossAlikeWrong : ChangeSpec := { name := "crossAlike", fn := fun _ => fun
  | [d1, d2] => { results := [.lit (.bool false)], args := [d1, d2] }
  | _ => none }
def CrossAlikeWrongFalsely : Prop := crossAlikeRow.holds Tryz.pinned (OpenSpec.ofChange crossAlikeWrong)

/-- 'tracerylaw04.GaussOne': WHATEVER THE INPUT: true; the input reads as it did. -/
def gaussOneSpec : ChangeSpec := { name := "gaussOne", fn := fun _ => fun
  | [d1, d2, d3] => { results := [.lit (.bool true)], args := [d1, d2, d3] }
  | _ => none }
def gaussOneRow : OpenClaim := { program := "ytiolbdleihiocaagreat", sum := "f859a6bd086f04a3fa326dc860dcfe3cd2d1065a888a1c0b7c92411ee5402298", func := "tracery/tracerylaw04.GaussOne", spec := "gaussOne", unfollowed := true, recurses := true, plainKeys := false, apart := false }
def GaussOneSaid : Prop := gaussOneRow.holds Tryz.pinned (OpenSpec.ofChange gaussOneSpec)

/-- ITS FALSE NEIGHBOUR: 'it returns false'. Refute it at one input. -/
def gaussOneWrong : ChangeSpec := { name := "gaussOne", fn := fun _ => fun
  | [d1, d2, d3] => { results := [.lit (.bool false)], args := [d1, d2, d3] }
  | _ => none }
def GaussOneWrongFalsely : Prop := gaussOneRow.holds Tryz.pinned (OpenSpec.ofChange gaussOneWrong)

/-- 'tracerylaw10.CrossKept': WHATEVER THE INPUT: true; the input reads as it did. -/
def crossKeptSpec : ChangeSpec := { name := "crossKept", fn := fun _ => fun
  | [d1, d2, d3] => { results := [.lit (.bool true)], args := [d1, d2, d3] }
  | _ => none }
def crossKeptRow : OpenClaim := { program := "ytiolbdleihiocaagreat", sum := "f859a6bd086f04a3fa326dc860dcfe3cd2d1065a888a1c0b7c92411ee5402298", func := "tracery/tracerylaw10.CrossKept", spec := "crossKept", plainKeys := false, apart := false }
def CrossKeptSaid : Prop := crossKeptRow.holds Tryz.pinned (OpenSpec.ofChange crossKeptSpec)

/-- ITS FALSE NEIGHBOUR: 'it returns false'. Refute it at one input. -/
def crossKeptWrong : ChangeSpec := { name := "crossKept", fn := fun _ => fun
  | [d1, d2, d3] => { results := [.lit (.bool false)], args := [d1, d2, d3] }
  | _ => none }
def CrossKeptWrongFalsely : Prop := crossKeptRow.holds Tryz.pinned (OpenSpec.ofChange crossKeptWrong)

/-- 'tracerylaw04.GaussTwo': WHATEVER THE INPUT: true; the input reads as it did. -/
def gaussTwoSpec : ChangeSpec := { name := "gaussTwo", fn := fun _ => fun
  | [d1, d2] => { results := [.lit (.bool true)], args := [d1, d2] }
  | _ => none }
def gaussTwoRow : OpenClaim := { program := "ytiolbdleihiocaagreat", sum := "f859a6bd086f04a3fa326dc860dcfe3cd2d1065a888a1c0b7c92411ee5402298", func := "tracery/tracerylaw04.GaussTwo", spec := "gaussTwo", unfollowed := true, recurses := true, plainKeys := false, apart := false }
def GaussTwoSaid : Prop := gaussTwoRow.holds Tryz.pinned (OpenSpec.ofChange gaussTwoSpec)

/-- ITS FALSE NEIGHBOUR: 'it returns false'. Refute it at one input. -/
def gaussTwoWrong : ChangeSpec := { name := "gaussTwo", fn := fun _ => fun
  | [d1, d2] => { results := [.lit (.bool false)], args := [d1, d2] }
  | _ => none }
def GaussTwoWrongFalsely : Prop := gaussTwoRow.holds Tryz.pinned (OpenSpec.ofChange gaussTwoWrong)

/- THE SECOND FORM. 'bulk': how many values and letters a reading holds, each counted each time it is reached (what is shared counts as often as it is met; a slice's spare places count too). A statement '..UptoSaid' is the law's where the arguments, and the package variables that the reading takes, are together of bulk at most 1048576: NARROWER than '..Said'. Prove '..Said' where nothing that the law and all that it calls make is longer than what came in: it says more and counts as full. Else prove '..UptoSaid'. A law counts once. -/
mutual
def uptoBulk {H : Type} : DataW H → Nat
  | .lit (.string bytes) => bytes.length + 1
  | .lit _ => 1
  | .nil => 1
  | .ptr d => uptoBulk d + 1
  | .slice elems spare => uptoBulkAll elems + uptoBulkAll spare + 1
  | .agg parts => uptoBulkAll parts + 1
  | .iface _ d => uptoBulk d + 1
  | .map entries => uptoBulkEntries entries + 1
  | .held _ => 1
def uptoBulkAll {H : Type} : List (DataW H) → Nat
  | [] => 0
  | d :: r => uptoBulk d + uptoBulkAll r
def uptoBulkEntries {H : Type} : List (Lit × DataW H) → Nat
  | [] => 0
  | x :: r => uptoBulkEntry x + uptoBulkEntries r
def uptoBulkEntry {H : Type} : Lit × DataW H → Nat
  | (.string bytes, d) => bytes.length + uptoBulk d + 1
  | (_, d) => uptoBulk d + 1
 end
def uptoSmall : (H : Type) → List (DataW H) → Bool := fun _ ds => decide (uptoBulkAll ds ≤ 1048576)
def OpenSpec.upto (s : _root_.Go.ChangeSpec) : _root_.Go.OpenSpec := { _root_.Go.OpenSpec.ofChange s with cond := some uptoSmall }

/-- 'tracerylaw08.MobThree', WHERE WHAT IT READS IS OF BULK AT MOST 1048576: true; the input reads as it did. -/
def mobThreeUptoRow : OpenClaim := { program := "ytiolbdleihiocaagreat", sum := "f859a6bd086f04a3fa326dc860dcfe3cd2d1065a888a1c0b7c92411ee5402298", func := "tracery/tracerylaw08.MobThree", spec := "mobThree", recurses := true, plainKeys := false, apart := false, narrowed := true }
def MobThreeUptoSaid : Prop := mobThreeUptoRow.holds Tryz.pinned (OpenSpec.upto mobThreeSpec)

/-- 'tracerylaw07.SphereTwo', WHERE WHAT IT READS IS OF BULK AT MOST 1048576: true; the input reads as it did. -/
def sphereTwoUptoRow : OpenClaim := { program := "ytiolbdleihiocaagreat", sum := "f859a6bd086f04a3fa326dc860dcfe3cd2d1065a888a1c0b7c92411ee5402298", func := "tracery/tracerylaw07.SphereTwo", spec := "sphereTwo", unfollowed := true, recurses := true, plainKeys := false, apart := false, narrowed := true }
def SphereTwoUptoSaid : Prop := sphereTwoUptoRow.holds Tryz.pinned (OpenSpec.upto sphereTwoSpec)

/-- 'tracerylaw08.MobPowers', WHERE WHAT IT READS IS OF BULK AT MOST 1048576: true; the input reads as it did. -/
def mobPowersUptoRow : OpenClaim := { program := "ytiolbdleihiocaagreat", sum := "f859a6bd086f04a3fa326dc860dcfe3cd2d1065a888a1c0b7c92411ee5402298", func := "tracery/tracerylaw08.MobPowers", spec := "mobPowers", recurses := true, plainKeys := false, apart := false, narrowed := true }
def MobPowersUptoSaid : Prop := mobPowersUptoRow.holds Tryz.pinned (OpenSpec.upto mobPowersSpec)

/-- 'tracerylaw08.MobMakes', WHERE WHAT IT READS IS OF BULK AT MOST 1048576: true; the input reads as it did. -/
def mobMakesUptoRow : OpenClaim := { program := "ytiolbdleihiocaagreat", sum := "f859a6bd086f04a3fa326dc860dcfe3cd2d1065a888a1c0b7c92411ee5402298", func := "tracery/tracerylaw08.MobMakes", spec := "mobMakes", recurses := true, plainKeys := false, apart := false, narrowed := true }
def MobMakesUptoSaid : Prop := mobMakesUptoRow.holds Tryz.pinned (OpenSpec.upto mobMakesSpec)

/-- 'tracerylaw10.CrossFourth', WHERE WHAT IT READS IS OF BULK AT MOST 1048576: true; the input reads as it did. -/
def crossFourthUptoRow : OpenClaim := { program := "ytiolbdleihiocaagreat", sum := "f859a6bd086f04a3fa326dc860dcfe3cd2d1065a888a1c0b7c92411ee5402298", func := "tracery/tracerylaw10.CrossFourth", spec := "crossFourth", plainKeys := false, apart := false, narrowed := true }
def CrossFourthUptoSaid : Prop := crossFourthUptoRow.holds Tryz.pinned (OpenSpec.upto crossFourthSpec)

/-- 'tracerylaw08.MobRow', WHERE WHAT IT READS IS OF BULK AT MOST 1048576: true; the input reads as it did. -/
def mobRowUptoRow : OpenClaim := { program := "ytiolbdleihiocaagreat", sum := "f859a6bd086f04a3fa326dc860dcfe3cd2d1065a888a1c0b7c92411ee5402298", func := "tracery/tracerylaw08.MobRow", spec := "mobRow", unfollowed := true, recurses := true, plainKeys := false, apart := false, narrowed := true }
def MobRowUptoSaid : Prop := mobRowUptoRow.holds Tryz.pinned (OpenSpec.upto mobRowSpec)

/-- 'tracerylaw10.CrossAlike', WHERE WHAT IT READS IS OF BULK AT MOST 1048576: true; the input reads as it did. -/
def crossAlikeUptoRow : OpenClaim := { program := "ytiolbdleihiocaagreat", sum := "f859a6bd086f04a3fa326dc860dcfe3cd2d1065a888a1c0b7c92411ee5402298", func := "tracery/tracerylaw10.CrossAlike", spec := "crossAlike", plainKeys := false, apart := false, narrowed := true }
def CrossAlikeUptoSaid : Prop := crossAlikeUptoRow.holds Tryz.pinned (OpenSpec.upto crossAlikeSpec)

/-- 'tracerylaw04.GaussOne', WHERE WHAT IT READS IS OF BULK AT MOST 1048576: true; the input reads as it did. -/
def gaussOneUptoRow : OpenClaim := { program := "ytiolbdleihiocaagreat", sum := "f859a6bd086f04a3fa326dc860dcfe3cd2d1065a888a1c0b7c92411ee5402298", func := "tracery/tracerylaw04.GaussOne", spec := "gaussOne", unfollowed := true, recurses := true, plainKeys := false, apart := false, narrowed := true }
def GaussOneUptoSaid : Prop := gaussOneUptoRow.holds Tryz.pinned (OpenSpec.upto gaussOneSpec)

/-- 'tracerylaw10.CrossKept', WHERE WHAT IT READS IS OF BULK AT MOST 1048576: true; the input reads as it did. -/
def crossKeptUptoRow : OpenClaim := { program := "ytiolbdleihiocaagreat", sum := "f859a6bd086f04a3fa326dc860dcfe3cd2d1065a888a1c0b7c92411ee5402298", func := "tracery/tracerylaw10.CrossKept", spec := "crossKept", plainKeys := false, apart := false, narrowed := true }
def CrossKeptUptoSaid : Prop := crossKeptUptoRow.holds Tryz.pinned (OpenSpec.upto crossKeptSpec)

/-- 'tracerylaw04.GaussTwo', WHERE WHAT IT READS IS OF BULK AT MOST 1048576: true; the input reads as it did. -/
def gaussTwoUptoRow : OpenClaim := { program := "ytiolbdleihiocaagreat", sum := "f859a6bd086f04a3fa326dc860dcfe3cd2d1065a888a1c0b7c92411ee5402298", func := "tracery/tracerylaw04.GaussTwo", spec := "gaussTwo", unfollowed := true, recurses := true, plainKeys := false, apart := false, narrowed := true }
def GaussTwoUptoSaid : Prop := gaussTwoUptoRow.holds Tryz.pinned (OpenSpec.upto gaussTwoSpec)

end Rows
end Go.Proofs.YtiolbdleihiocaaGreat
