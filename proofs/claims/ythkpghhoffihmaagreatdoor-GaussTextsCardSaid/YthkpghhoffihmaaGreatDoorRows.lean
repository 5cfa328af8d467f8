/-
  NARROWER THAN 'FOR EVERY INPUT', by the rows' own cells (each row's printed sentence says how): TopBack: laid · FracTexts: laid · GaussTexts: laid · GaussNames: laid · SphereDrops: laid · SphereBall: laid · CircTexts: laid · MobTexts: laid · MobGroup: laid · CircKeeps: laid.
  DERIVED. THE GIVEN ROWS OF THIS SEAT. 10 by the template 'for every input the law returns true; each argument reads behind the call as it read before'; 0 by the template 'total and deterministic' (their statements: YthkpghhoffihmaaGreatDoorTotals.lean).
  GIVEN WITH THE SEED: the statements are not yours to turn. If you find one false, say at which input.
  Laid BY PROGRAM, IN A SANDBOX (cutbox-rows.mjs): the forced cells as the released guide's own fill.sh prints them over the translation 77b66ad5b9ed003d… (all of the seat's roots in one cut). By AI agents, Wed Nov 11 2026. No macro, syntax, notation, axiom, sorry.
-/
import Derived.Test.YthkpghhoffihmaaGreatDoorChecked
import GoSem.PinnedTables
import GoSem.Claim
import GoSem.ClaimJoined
import GoSem.ClaimMapViews
import Derived.JoinedTies
import Derived.KernelRfl
namespace Go.Proofs.YthkpghhoffihmaaGreatDoor
/- THE CELL 'sum', in the pinned program and in every row, IS THE sha256 OF THE DUMP (.gsa) THAT YthkpghhoffihmaaGreatDoorProg.lean LOADS. Nothing in Lean hashes anything: it is a label: what it is worth is what the hold of that sum in a sandbox is worth. -/
noncomputable def Tryz.pinned : Pinned := { name := "ythkpghhoffihmaagreatdoor", sum := "77b66ad5b9ed003d58fe14e9c522515cd72fbbbdc1213cace2ca5fcb758a6e3b", checked := Tryz.checked }
namespace Rows
def none {H : Type} : Left H := { results := [], args := [] }

/- WHAT THE LISTED PACKAGE-LEVEL VARIABLES READ AS WHEN THE CALL BEGINS. Each datum BY PROGRAM (the guide's laid-datum.mjs) off the statement by which the dump's own 'gosem.cut.vars' lays the variable. In a bare row this is a premise. The card (YthkpghhoffihmaaGreatDoorCards.lean) ties it to the program's text. -/
def laid_unicode_utf8_acceptRanges {H : Type} : DataW H := .agg [.agg [.lit (.int .u8 128), .lit (.int .u8 191)], .agg [.lit (.int .u8 160), .lit (.int .u8 191)], .agg [.lit (.int .u8 128), .lit (.int .u8 159)], .agg [.lit (.int .u8 144), .lit (.int .u8 191)], .agg [.lit (.int .u8 128), .lit (.int .u8 143)], .agg [.lit (.int .u8 0), .lit (.int .u8 0)], .agg [.lit (.int .u8 0), .lit (.int .u8 0)], .agg [.lit (.int .u8 0), .lit (.int .u8 0)], .agg [.lit (.int .u8 0), .lit (.int .u8 0)], .agg [.lit (.int .u8 0), .lit (.int .u8 0)], .agg [.lit (.int .u8 0), .lit (.int .u8 0)], .agg [.lit (.int .u8 0), .lit (.int .u8 0)], .agg [.lit (.int .u8 0), .lit (.int .u8 0)], .agg [.lit (.int .u8 0), .lit (.int .u8 0)], .agg [.lit (.int .u8 0), .lit (.int .u8 0)], .agg [.lit (.int .u8 0), .lit (.int .u8 0)]]
/-- One of Go's own tables, pinned by name: the form's constant. -/
def laid_unicode_utf8_first : DataW Unit := Go.Pinned.utf8First

/-- 'tracerytop.TopBack': WHATEVER THE INPUT: true; the input reads as it did. -/
def topBackSpec : ChangeSpec := { name := "topBack", fn := fun _ => fun
  | [d1, d2] => { results := [.lit (.bool true)], args := [d1, d2] }
  | _ => none }
def topBackRow : OpenClaim := { program := "ythkpghhoffihmaagreatdoor", sum := "77b66ad5b9ed003d58fe14e9c522515cd72fbbbdc1213cace2ca5fcb758a6e3b", func := "tracery/tracerytop.TopBack", spec := "topBack", inPlace := ["internal/abi.NoEscape", "internal/bytealg.MakeNoZero", "internal/bytealg.CountString", "internal/bytealg.IndexByteString", "internal/bytealg.IndexString"], unfollowed := true, recurses := true, named := ["unicode/utf8.first", "unicode/utf8.acceptRanges", "internal/bytealg.MaxLen"], plainKeys := false, apart := false, laid := [("unicode/utf8.acceptRanges", laid_unicode_utf8_acceptRanges), ("unicode/utf8.first", laid_unicode_utf8_first)] }
def TopBackSaid : Prop := topBackRow.holds Tryz.pinned (OpenSpec.ofChange topBackSpec)

/-- ITS FALSE NEIGHBOUR: 'it returns false'. Refute it at one input. -/
def topBackWrong : ChangeSpec := { name := "topBack", fn := fun _ => fun
  | [d1, d2] => { results := [.lit (.bool false)], args := [d1, d2] }
  | _ => none }
def TopBackWrongFalsely : Prop := topBackRow.holds Tryz.pinned (OpenSpec.ofChange topBackWrong)

/-- 'tracerylaw03.FracTexts': WHATEVER THE INPUT: true; the input reads as it did. -/
def fracTextsSpec : ChangeSpec := { name := "fracTexts", fn := fun _ => fun
  | [d1, d2] => { results := [.lit (.bool true)], args := [d1, d2] }
  | _ => none }
def fracTextsRow : OpenClaim := { program := "ythkpghhoffihmaagreatdoor", sum := "77b66ad5b9ed003d58fe14e9c522515cd72fbbbdc1213cace2ca5fcb758a6e3b", func := "tracery/tracerylaw03.FracTexts", spec := "fracTexts", inPlace := ["internal/bytealg.CountString", "internal/bytealg.IndexByteString", "internal/bytealg.IndexString"], unfollowed := true, recurses := true, named := ["unicode/utf8.first", "unicode/utf8.acceptRanges", "internal/bytealg.MaxLen"], plainKeys := false, apart := false, laid := [("unicode/utf8.acceptRanges", laid_unicode_utf8_acceptRanges), ("unicode/utf8.first", laid_unicode_utf8_first)] }
def FracTextsSaid : Prop := fracTextsRow.holds Tryz.pinned (OpenSpec.ofChange fracTextsSpec)

/-- ITS FALSE NEIGHBOUR: 'it returns false'. Refute it at one input. -/
def fracTextsWrong : ChangeSpec := { name := "fracTexts", fn := fun _ => fun
  | [d1, d2] => { results := [.lit (.bool false)], args := [d1, d2] }
  | _ => none }
def FracTextsWrongFalsely : Prop := fracTextsRow.holds Tryz.pinned (OpenSpec.ofChange fracTextsWrong)

/-- 'tracerylaw04.GaussTexts': WHATEVER THE INPUT: true; the input reads as it did. -/
def gaussTextsSpec : ChangeSpec := { name := "gaussTexts", fn := fun _ => fun
  | [d1, d2] => { results := [.lit (.bool true)], args := [d1, d2] }
  | _ => none }
def gaussTextsRow : OpenClaim := { program := "ythkpghhoffihmaagreatdoor", sum := "77b66ad5b9ed003d58fe14e9c522515cd72fbbbdc1213cace2ca5fcb758a6e3b", func := "tracery/tracerylaw04.GaussTexts", spec := "gaussTexts", inPlace := ["internal/bytealg.CountString", "internal/bytealg.IndexByteString", "internal/bytealg.IndexString"], unfollowed := true, recurses := true, named := ["unicode/utf8.first", "unicode/utf8.acceptRanges", "internal/bytealg.MaxLen"], plainKeys := false, apart := false, laid := [("unicode/utf8.acceptRanges", laid_unicode_utf8_acceptRanges), ("unicode/utf8.first", laid_unicode_utf8_first)] }
def GaussTextsSaid : Prop := gaussTextsRow.holds Tryz.pinned (OpenSpec.ofChange gaussTextsSpec)

/-- ITS FALSE NEIGHBOUR: 'it returns false'. Refute it at one input. -/
def gaussTextsWrong : ChangeSpec := { name := "gaussTexts", fn := fun _ => fun
  | [d1, d2] => { results := [.lit (.bool false)], args := [d1, d2] }
  | _ => none }
def GaussTextsWrongFalsely : Prop := gaussTextsRow.holds Tryz.pinned (OpenSpec.ofChange gaussTextsWrong)

/-- 'tracerylaw04.GaussNames': WHATEVER THE INPUT: true; the input reads as it did. -/
def gaussNamesSpec : ChangeSpec := { name := "gaussNames", fn := fun _ => fun
  | [] => { results := [.lit (.bool true)], args := [] }
  | _ => none }
def gaussNamesRow : OpenClaim := { program := "ythkpghhoffihmaagreatdoor", sum := "77b66ad5b9ed003d58fe14e9c522515cd72fbbbdc1213cace2ca5fcb758a6e3b", func := "tracery/tracerylaw04.GaussNames", spec := "gaussNames", inPlace := ["internal/bytealg.CountString", "internal/bytealg.IndexByteString", "internal/bytealg.IndexString"], unfollowed := true, recurses := true, named := ["unicode/utf8.first", "unicode/utf8.acceptRanges", "internal/bytealg.MaxLen"], plainKeys := false, apart := false, laid := [("unicode/utf8.acceptRanges", laid_unicode_utf8_acceptRanges), ("unicode/utf8.first", laid_unicode_utf8_first)] }
def GaussNamesSaid : Prop := gaussNamesRow.holds Tryz.pinned (OpenSpec.ofChange gaussNamesSpec)

/-- ITS FALSE NEIGHBOUR: 'it returns false'. Refute it at one input. -/
def gaussNamesWrong : ChangeSpec := { name := "gaussNames", fn := fun _ => fun
  | [] => { results := [.lit (.bool false)], args := [] }
  | _ => none }
def GaussNamesWrongFalsely : Prop := gaussNamesRow.holds Tryz.pinned (OpenSpec.ofChange gaussNamesWrong)

/-- 'tracerylaw07.SphereDrops': WHATEVER THE INPUT: true; the input reads as it did. -/
def sphereDropsSpec : ChangeSpec := { name := "sphereDrops", fn := fun _ => fun
  | [d1, d2] => { results := [.lit (.bool true)], args := [d1, d2] }
  | _ => none }
def sphereDropsRow : OpenClaim := { program := "ythkpghhoffihmaagreatdoor", sum := "77b66ad5b9ed003d58fe14e9c522515cd72fbbbdc1213cace2ca5fcb758a6e3b", func := "tracery/tracerylaw07.SphereDrops", spec := "sphereDrops", inPlace := ["internal/bytealg.CountString", "internal/bytealg.IndexByteString", "internal/bytealg.IndexString"], unfollowed := true, recurses := true, named := ["unicode/utf8.first", "unicode/utf8.acceptRanges", "internal/bytealg.MaxLen"], plainKeys := false, apart := false, laid := [("unicode/utf8.acceptRanges", laid_unicode_utf8_acceptRanges), ("unicode/utf8.first", laid_unicode_utf8_first)] }
def SphereDropsSaid : Prop := sphereDropsRow.holds Tryz.pinned (OpenSpec.ofChange sphereDropsSpec)

/-- ITS FALSE NEIGHBOUR: 'it returns false'. Refute it at one input. -/
def sphereDropsWrong : ChangeSpec := { name := "sphereDrops", fn := fun _ => fun
  | [d1, d2] => { results := [.lit (.bool false)], args := [d1, d2] }
  | _ => none }
def SphereDropsWrongFalsely : Prop := sphereDropsRow.holds Tryz.pinned (OpenSpec.ofChange sphereDropsWrong)

/-- 'tracerylaw07.SphereBall': WHATEVER THE INPUT: true; the input reads as it did. -/
def sphereBallSpec : ChangeSpec := { name := "sphereBall", fn := fun _ => fun
  | [d1, d2] => { results := [.lit (.bool true)], args := [d1, d2] }
  | _ => none }
def sphereBallRow : OpenClaim := { program := "ythkpghhoffihmaagreatdoor", sum := "77b66ad5b9ed003d58fe14e9c522515cd72fbbbdc1213cace2ca5fcb758a6e3b", func := "tracery/tracerylaw07.SphereBall", spec := "sphereBall", inPlace := ["internal/bytealg.CountString", "internal/bytealg.IndexByteString", "internal/bytealg.IndexString"], unfollowed := true, recurses := true, named := ["unicode/utf8.first", "unicode/utf8.acceptRanges", "internal/bytealg.MaxLen"], plainKeys := false, apart := false, laid := [("unicode/utf8.acceptRanges", laid_unicode_utf8_acceptRanges), ("unicode/utf8.first", laid_unicode_utf8_first)] }
def SphereBallSaid : Prop := sphereBallRow.holds Tryz.pinned (OpenSpec.ofChange sphereBallSpec)

/-- ITS FALSE NEIGHBOUR: 'it returns false'. Refute it at one input. -/
def sphereBallWrong : ChangeSpec := { name := "sphereBall", fn := fun _ => fun
  | [d1, d2] => { results := [.lit (.bool false)], args := [d1, d2] }
  | _ => none }
def SphereBallWrongFalsely : Prop := sphereBallRow.holds Tryz.pinned (OpenSpec.ofChange sphereBallWrong)

/-- 'tracerylaw11.CircTexts': WHATEVER THE INPUT: true; the input reads as it did. -/
def circTextsSpec : ChangeSpec := { name := "circTexts", fn := fun _ => fun
  | [d1, d2] => { results := [.lit (.bool true)], args := [d1, d2] }
  | _ => none }
def circTextsRow : OpenClaim := { program := "ythkpghhoffihmaagreatdoor", sum := "77b66ad5b9ed003d58fe14e9c522515cd72fbbbdc1213cace2ca5fcb758a6e3b", func := "tracery/tracerylaw11.CircTexts", spec := "circTexts", inPlace := ["internal/abi.NoEscape", "internal/bytealg.MakeNoZero", "internal/bytealg.CountString", "internal/bytealg.IndexByteString", "internal/bytealg.IndexString"], unfollowed := true, recurses := true, named := ["unicode/utf8.first", "unicode/utf8.acceptRanges", "internal/bytealg.MaxLen"], plainKeys := false, apart := false, laid := [("unicode/utf8.acceptRanges", laid_unicode_utf8_acceptRanges), ("unicode/utf8.first", laid_unicode_utf8_first)] }
def CircTextsSaid : Prop := circTextsRow.holds Tryz.pinned (OpenSpec.ofChange circTextsSpec)

/-- ITS FALSE NEIGHBOUR: 'it returns false'. Refute it at one input. -/
def circTextsWrong : ChangeSpec := { name := "circTexts", fn := fun _ => fun
  | [d1, d2] => { results := [.lit (.bool false)], args := [d1, d2] }
  | _ => none }
def CircTextsWrongFalsely : Prop := circTextsRow.holds Tryz.pinned (OpenSpec.ofChange circTextsWrong)

/-- 'tracerylaw08.MobTexts': WHATEVER THE INPUT: true; the input reads as it did. -/
def mobTextsSpec : ChangeSpec := { name := "mobTexts", fn := fun _ => fun
  | [d1, d2] => { results := [.lit (.bool true)], args := [d1, d2] }
  | _ => none }
def mobTextsRow : OpenClaim := { program := "ythkpghhoffihmaagreatdoor", sum := "77b66ad5b9ed003d58fe14e9c522515cd72fbbbdc1213cace2ca5fcb758a6e3b", func := "tracery/tracerylaw08.MobTexts", spec := "mobTexts", inPlace := ["internal/abi.NoEscape", "internal/bytealg.MakeNoZero", "internal/bytealg.CountString", "internal/bytealg.IndexByteString", "internal/bytealg.IndexString"], recurses := true, named := ["unicode/utf8.first", "unicode/utf8.acceptRanges", "internal/bytealg.MaxLen"], plainKeys := false, apart := false, laid := [("unicode/utf8.acceptRanges", laid_unicode_utf8_acceptRanges), ("unicode/utf8.first", laid_unicode_utf8_first)] }
def MobTextsSaid : Prop := mobTextsRow.holds Tryz.pinned (OpenSpec.ofChange mobTextsSpec)

/-- ITS FALSE NEIGHBOUR: 'it returns false'. Refute it at one input. -/
def mobTextsWrong : ChangeSpec := { name := "mobTexts", fn := fun _ => fun
  | [d1, d2] => { results := [.lit (.bool false)], args := [d1, d2] }
  | _ => none }
def MobTextsWrongFalsely : Prop := mobTextsRow.holds Tryz.pinned (OpenSpec.ofChange mobTextsWrong)

/-- 'tracerylaw08.MobGroup': WHATEVER THE INPUT: true; the input reads as it did. -/
def mobGroupSpec : ChangeSpec := { name := "mobGroup", fn := fun _ => fun
  | [d] => { results := [.lit (.bool true)], args := [d] }
  | _ => none }
def mobGroupRow : OpenClaim := { program := "ythkpghhoffihmaagreatdoor", sum := "77b66ad5b9ed003d58fe14e9c522515cd72fbbbdc1213cace2ca5fcb758a6e3b", func := "tracery/tracerylaw08.MobGroup", spec := "mobGroup", inPlace := ["internal/abi.NoEscape", "internal/bytealg.MakeNoZero", "internal/bytealg.CountString", "internal/bytealg.IndexByteString", "internal/bytealg.IndexString"], unfollowed := true, recurses := true, named := ["unicode/utf8.first", "unicode/utf8.acceptRanges", "internal/bytealg.MaxLen"], plainKeys := false, apart := false, laid := [("unicode/utf8.acceptRanges", laid_unicode_utf8_acceptRanges), ("unicode/utf8.first", laid_unicode_utf8_first)] }
def MobGroupSaid : Prop := mobGroupRow.holds Tryz.pinned (OpenSpec.ofChange mobGroupSpec)

/-- ITS FALSE NEIGHBOUR: 'it returns false'. Refute it at one input. -/
def mobGroupWrong : ChangeSpec := { name := "mobGroup", fn := fun _ => fun
  | [d] => { results := [.lit (.bool false)], args := [d] }
  | _ => none }
def MobGroupWrongFalsely : Prop := mobGroupRow.holds Tryz.pinned (OpenSpec.ofChange mobGroupWrong)

/-- 'tracerylaw11.CircKeeps': WHATEVER THE INPUT: true; the input reads as it did. -/
def circKeepsSpec : ChangeSpec := { name := "circKeeps", fn := fun _ => fun
  | [d1, d2, d3] => { results := [.lit (.bool true)], args := [d1, d2, d3] }
  | _ => none }
def circKeepsRow : OpenClaim := { program := "ythkpghhoffihmaagreatdoor", sum := "77b66ad5b9ed003d58fe14e9c522515cd72fbbbdc1213cace2ca5fcb758a6e3b", func := "tracery/tracerylaw11.CircKeeps", spec := "circKeeps", inPlace := ["internal/abi.NoEscape", "internal/bytealg.MakeNoZero", "internal/bytealg.CountString", "internal/bytealg.IndexByteString", "internal/bytealg.IndexString"], unfollowed := true, recurses := true, named := ["unicode/utf8.first", "unicode/utf8.acceptRanges", "internal/bytealg.MaxLen"], plainKeys := false, apart := false, laid := [("unicode/utf8.acceptRanges", laid_unicode_utf8_acceptRanges), ("unicode/utf8.first", laid_unicode_utf8_first)] }
def CircKeepsSaid : Prop := circKeepsRow.holds Tryz.pinned (OpenSpec.ofChange circKeepsSpec)

/-- ITS FALSE NEIGHBOUR: 'it returns false'. Refute it at one input. -/
def circKeepsWrong : ChangeSpec := { name := "circKeeps", fn := fun _ => fun
  | [d1, d2, d3] => { results := [.lit (.bool false)], args := [d1, d2, d3] }
  | _ => none }
def CircKeepsWrongFalsely : Prop := circKeepsRow.holds Tryz.pinned (OpenSpec.ofChange circKeepsWrong)

/- THE SECOND FORM. 'bulk': how many values and letters a reading holds, each counted each time it is reached (what is shared counts as often as it is met; a slice's spare places count too). A statement '..UptoSaid' is the law's where the arguments, and the package variables that the reading takes, are together of bulk at most 1048576: NARROWER than '..Said'. Prove '..Said' where nothing that the law and all that it calls make is longer than what came in: it says more and counts as full. Else prove '..UptoSaid'. A law counts once. -/
mutual
def uptoBulk {H : Type} : DataW H → Nat
  | .lit (.string bytes) => bytes.length + 1
  | .lit _ => 1
  | .nil => 1
  | .ptr d => uptoBulk d + 1
  | .slice elems spare => uptoBulkAll elems + uptoBulkAll spare + 1
  | .agg parts => uptoBulkAll parts + 1
  | .iface _ d => uptoBulk d + 1
  | .map entries => uptoBulkEntries entries + 1
  | .held _ => 1
def uptoBulkAll {H : Type} : List (DataW H) → Nat
  | [] => 0
  | d :: r => uptoBulk d + uptoBulkAll r
def uptoBulkEntries {H : Type} : List (Lit × DataW H) → Nat
  | [] => 0
  | x :: r => uptoBulkEntry x + uptoBulkEntries r
def uptoBulkEntry {H : Type} : Lit × DataW H → Nat
  | (.string bytes, d) => bytes.length + uptoBulk d + 1
  | (_, d) => uptoBulk d + 1
 end
def uptoSmall : (H : Type) → List (DataW H) → Bool := fun _ ds => decide (uptoBulkAll ds ≤ 1048576)
def OpenSpec.upto (s : _root_.Go.ChangeSpec) : _root_.Go.OpenSpec := { _root_.Go.OpenSpec.ofChange s with cond := some uptoSmall }

/-- 'tracerytop.TopBack', WHERE WHAT IT READS IS OF BULK AT MOST 1048576: true; the input reads as it did. -/
def topBackUptoRow : OpenClaim := { program := "ythkpghhoffihmaagreatdoor", sum := "77b66ad5b9ed003d58fe14e9c522515cd72fbbbdc1213cace2ca5fcb758a6e3b", func := "tracery/tracerytop.TopBack", spec := "topBack", inPlace := ["internal/abi.NoEscape", "internal/bytealg.MakeNoZero", "internal/bytealg.CountString", "internal/bytealg.IndexByteString", "internal/bytealg.IndexString"], unfollowed := true, recurses := true, named := ["unicode/utf8.first", "unicode/utf8.acceptRanges", "internal/bytealg.MaxLen"], plainKeys := false, apart := false, laid := [("unicode/utf8.acceptRanges", laid_unicode_utf8_acceptRanges), ("unicode/utf8.first", laid_unicode_utf8_first)], narrowed := true }
def TopBackUptoSaid : Prop := topBackUptoRow.holds Tryz.pinned (OpenSpec.upto topBackSpec)

/-- 'tracerylaw03.FracTexts', WHERE WHAT IT READS IS OF BULK AT MOST 1048576: true; the input reads as it did. -/
def fracTextsUptoRow : OpenClaim := { program := "ythkpghhoffihmaagreatdoor", sum := "77b66ad5b9ed003d58fe14e9c522515cd72fbbbdc1213cace2ca5fcb758a6e3b", func := "tracery/tracerylaw03.FracTexts", spec := "fracTexts", inPlace := ["internal/bytealg.CountString", "internal/bytealg.IndexByteString", "internal/bytealg.IndexString"], unfollowed := true, recurses := true, named := ["unicode/utf8.first", "unicode/utf8.acceptRanges", "internal/bytealg.MaxLen"], plainKeys := false, apart := false, laid := [("unicode/utf8.acceptRanges", laid_unicode_utf8_acceptRanges), ("unicode/utf8.first", laid_unicode_utf8_first)], narrowed := true }
def FracTextsUptoSaid : Prop := fracTextsUptoRow.holds Tryz.pinned (OpenSpec.upto fracTextsSpec)

/-- 'tracerylaw04.GaussTexts', WHERE WHAT IT READS IS OF BULK AT MOST 1048576: true; the input reads as it did. -/
def gaussTextsUptoRow : OpenClaim := { program := "ythkpghhoffihmaagreatdoor", sum := "77b66ad5b9ed003d58fe14e9c522515cd72fbbbdc1213cace2ca5fcb758a6e3b", func := "tracery/tracerylaw04.GaussTexts", spec := "gaussTexts", inPlace := ["internal/bytealg.CountString", "internal/bytealg.IndexByteString", "internal/bytealg.IndexString"], unfollowed := true, recurses := true, named := ["unicode/utf8.first", "unicode/utf8.acceptRanges", "internal/bytealg.MaxLen"], plainKeys := false, apart := false, laid := [("unicode/utf8.acceptRanges", laid_unicode_utf8_acceptRanges), ("unicode/utf8.first", laid_unicode_utf8_first)], narrowed := true }
def GaussTextsUptoSaid : Prop := gaussTextsUptoRow.holds Tryz.pinned (OpenSpec.upto gaussTextsSpec)

/-- 'tracerylaw04.GaussNames', WHERE WHAT IT READS IS OF BULK AT MOST 1048576: true; the input reads as it did. -/
def gaussNamesUptoRow : OpenClaim := { program := "ythkpghhoffihmaagreatdoor", sum := "77b66ad5b9ed003d58fe14e9c522515cd72fbbbdc1213cace2ca5fcb758a6e3b", func := "tracery/tracerylaw04.GaussNames", spec := "gaussNames", inPlace := ["internal/bytealg.CountString", "internal/bytealg.IndexByteString", "internal/bytealg.IndexString"], unfollowed := true, recurses := true, named := ["unicode/utf8.first", "unicode/utf8.acceptRanges", "internal/bytealg.MaxLen"], plainKeys := false, apart := false, laid := [("unicode/utf8.acceptRanges", laid_unicode_utf8_acceptRanges), ("unicode/utf8.first", laid_unicode_utf8_first)], narrowed := true }
def GaussNamesUptoSaid : Prop := gaussNamesUptoRow.holds Tryz.pinned (OpenSpec.upto gaussNamesSpec)

/-- 'tracerylaw07.SphereDrops', WHERE WHAT IT READS IS OF BULK AT MOST 1048576: true; the input reads as it did. -/
def sphereDropsUptoRow : OpenClaim := { program := "ythkpghhoffihmaagreatdoor", sum := "77b66ad5b9ed003d58fe14e9c522515cd72fbbbdc1213cace2ca5fcb758a6e3b", func := "tracery/tracerylaw07.SphereDrops", spec := "sphereDrops", inPlace := ["internal/bytealg.CountString", "internal/bytealg.IndexByteString", "internal/bytealg.IndexString"], unfollowed := true, recurses := true, named := ["unicode/utf8.first", "unicode/utf8.acceptRanges", "internal/bytealg.MaxLen"], plainKeys := false, apart := false, laid := [("unicode/utf8.acceptRanges", laid_unicode_utf8_acceptRanges), ("unicode/utf8.first", laid_unicode_utf8_first)], narrowed := true }
def SphereDropsUptoSaid : Prop := sphereDropsUptoRow.holds Tryz.pinned (OpenSpec.upto sphereDropsSpec)

/-- 'tracerylaw07.SphereBall', WHERE WHAT IT READS IS OF BULK AT MOST 1048576: true; the input reads as it did. -/
def sphereBallUptoRow : OpenClaim := { program := "ythkpghhoffihmaagreatdoor", sum := "77b66ad5b9ed003d58fe14e9c522515cd72fbbbdc1213cace2ca5fcb758a6e3b", func := "tracery/tracerylaw07.SphereBall", spec := "sphereBall", inPlace := ["internal/bytealg.CountString", "internal/bytealg.IndexByteString", "internal/bytealg.IndexString"], unfollowed := true, recurses := true, named := ["unicode/utf8.first", "unicode/utf8.acceptRanges", "internal/bytealg.MaxLen"], plainKeys := false, apart := false, laid := [("unicode/utf8.acceptRanges", laid_unicode_utf8_acceptRanges), ("unicode/utf8.first", laid_unicode_utf8_first)], narrowed := true }
def SphereBallUptoSaid : Prop := sphereBallUptoRow.holds Tryz.pinned (OpenSpec.upto sphereBallSpec)

/-- 'tracerylaw11.CircTexts', WHERE WHAT IT READS IS OF BULK AT MOST 1048576: true; the input reads as it did. -/
def circTextsUptoRow : OpenClaim := { program := "ythkpghhoffihmaagreatdoor", sum := "77b66ad5b9ed003d58fe14e9c522515cd72fbbbdc1213cace2ca5fcb758a6e3b", func := "tracery/tracerylaw11.CircTexts", spec := "circTexts", inPlace := ["internal/abi.NoEscape", "internal/bytealg.MakeNoZero", "internal/bytealg.CountString", "internal/bytealg.IndexByteString", "internal/bytealg.IndexString"], unfollowed := true, recurses := true, named := ["unicode/utf8.first", "unicode/utf8.acceptRanges", "internal/bytealg.MaxLen"], plainKeys := false, apart := false, laid := [("unicode/utf8.acceptRanges", laid_unicode_utf8_acceptRanges), ("unicode/utf8.first", laid_unicode_utf8_first)], narrowed := true }
def CircTextsUptoSaid : Prop := circTextsUptoRow.holds Tryz.pinned (OpenSpec.upto circTextsSpec)

/-- 'tracerylaw08.MobTexts', WHERE WHAT IT READS IS OF BULK AT MOST 1048576: true; the input reads as it did. -/
def mobTextsUptoRow : OpenClaim := { program := "ythkpghhoffihmaagreatdoor", sum := "77b66ad5b9ed003d58fe14e9c522515cd72fbbbdc1213cace2ca5fcb758a6e3b", func := "tracery/tracerylaw08.MobTexts", spec := "mobTexts", inPlace := ["internal/abi.NoEscape", "internal/bytealg.MakeNoZero", "internal/bytealg.CountString", "internal/bytealg.IndexByteString", "internal/bytealg.IndexString"], recurses := true, named := ["unicode/utf8.first", "unicode/utf8.acceptRanges", "internal/bytealg.MaxLen"], plainKeys := false, apart := false, laid := [("unicode/utf8.acceptRanges", laid_unicode_utf8_acceptRanges), ("unicode/utf8.first", laid_unicode_utf8_first)], narrowed := true }
def MobTextsUptoSaid : Prop := mobTextsUptoRow.holds Tryz.pinned (OpenSpec.upto mobTextsSpec)

/-- 'tracerylaw08.MobGroup', WHERE WHAT IT READS IS OF BULK AT MOST 1048576: true; the input reads as it did. -/
def mobGroupUptoRow : OpenClaim := { program := "ythkpghhoffihmaagreatdoor", sum := "77b66ad5b9ed003d58fe14e9c522515cd72fbbbdc1213cace2ca5fcb758a6e3b", func := "tracery/tracerylaw08.MobGroup", spec := "mobGroup", inPlace := ["internal/abi.NoEscape", "internal/bytealg.MakeNoZero", "internal/bytealg.CountString", "internal/bytealg.IndexByteString", "internal/bytealg.IndexString"], unfollowed := true, recurses := true, named := ["unicode/utf8.first", "unicode/utf8.acceptRanges", "internal/bytealg.MaxLen"], plainKeys := false, apart := false, laid := [("unicode/utf8.acceptRanges", laid_unicode_utf8_acceptRanges), ("unicode/utf8.first", laid_unicode_utf8_first)], narrowed := true }
def MobGroupUptoSaid : Prop := mobGroupUptoRow.holds Tryz.pinned (OpenSpec.upto mobGroupSpec)

/-- 'tracerylaw11.CircKeeps', WHERE WHAT IT READS IS OF BULK AT MOST 1048576: true; the input reads as it did. -/
def circKeepsUptoRow : OpenClaim := { program := "ythkpghhoffihmaagreatdoor", sum := "77b66ad5b9ed003d58fe14e9c522515cd72fbbbdc1213cace2ca5fcb758a6e3b", func := "tracery/tracerylaw11.CircKeeps", spec := "circKeeps", inPlace := ["internal/abi.NoEscape", "internal/bytealg.MakeNoZero", "internal/bytealg.CountString", "internal/bytealg.IndexByteString", "internal/bytealg.IndexString"], unfollowed := true, recurses := true, named := ["unicode/utf8.first", "unicode/utf8.acceptRanges", "internal/bytealg.MaxLen"], plainKeys := false, apart := false, laid := [("unicode/utf8.acceptRanges", laid_unicode_utf8_acceptRanges), ("unicode/utf8.first", laid_unicode_utf8_first)], narrowed := true }
def CircKeepsUptoSaid : Prop := circKeepsUptoRow.holds Tryz.pinned (OpenSpec.upto circKeepsSpec)

end Rows
end Go.Proofs.YthkpghhoffihmaaGreatDoor
