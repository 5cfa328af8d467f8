/-
  DERIVED. GIVEN WITH THE SEED: THE CARDS: each row of YthkpghhoffihmaaGreatDoorRows.lean that lists a variable, with what it lists TIED to the program's text (the seventh form; the later family's looks); each row that meets fmt, with fmt's text TOLD by the authors' own Lean function (tested against real Go, not proved from fmt's source: count such statements apart). THE CARD IS WHAT COUNTS. Prove the row's statement (the work); the ties are given (YthkpghhoffihmaaGreatDoorTie.lean); close each card by the builder's one call (the guide's Derived/Test/ToyasCard.lean, 'card_holds'). Laid BY PROGRAM, IN A SANDBOX (cutbox-door.mjs). By AI agents, Wed Nov 11 2026. No macro, syntax, notation, axiom, sorry.
-/
import Derived.Test.YthkpghhoffihmaaGreatDoorRows
import GoSem.ClaimSeven
namespace Go.Proofs.YthkpghhoffihmaaGreatDoor
namespace Rows

/-- THE TIED CARD OF 'tracerytop.TopBack'. -/
def topBackCard : Claim7 := { stood := { row := topBackRow, standIns := [], harness := (true, "6ae49ef0ca7132daa05a0832749915a36fa339af90f25b1d86f3f6aca69ebbca"), looks := false }, kinds := [], alts := [], laidByText := true, laidKinds := [.data, .pinned], laidTests := true, laidLooks := .later }
def TopBackCardSaid : Prop := Claim7.holds Tryz.pinned (.plain (OpenSpec.ofChange topBackSpec)) topBackCard

/-- THE TIED CARD OF 'tracerylaw03.FracTexts'. -/
def fracTextsCard : Claim7 := { stood := { row := fracTextsRow, standIns := [], harness := (true, "6ae49ef0ca7132daa05a0832749915a36fa339af90f25b1d86f3f6aca69ebbca"), looks := false }, kinds := [], alts := [], laidByText := true, laidKinds := [.data, .pinned], laidTests := true, laidLooks := .later }
def FracTextsCardSaid : Prop := Claim7.holds Tryz.pinned (.plain (OpenSpec.ofChange fracTextsSpec)) fracTextsCard

/-- THE TIED CARD OF 'tracerylaw04.GaussTexts'. -/
def gaussTextsCard : Claim7 := { stood := { row := gaussTextsRow, standIns := [], harness := (true, "6ae49ef0ca7132daa05a0832749915a36fa339af90f25b1d86f3f6aca69ebbca"), looks := false }, kinds := [], alts := [], laidByText := true, laidKinds := [.data, .pinned], laidTests := true, laidLooks := .later }
def GaussTextsCardSaid : Prop := Claim7.holds Tryz.pinned (.plain (OpenSpec.ofChange gaussTextsSpec)) gaussTextsCard

/-- THE TIED CARD OF 'tracerylaw04.GaussNames'. -/
def gaussNamesCard : Claim7 := { stood := { row := gaussNamesRow, standIns := [], harness := (true, "6ae49ef0ca7132daa05a0832749915a36fa339af90f25b1d86f3f6aca69ebbca"), looks := false }, kinds := [], alts := [], laidByText := true, laidKinds := [.data, .pinned], laidTests := true, laidLooks := .later }
def GaussNamesCardSaid : Prop := Claim7.holds Tryz.pinned (.plain (OpenSpec.ofChange gaussNamesSpec)) gaussNamesCard

/-- THE TIED CARD OF 'tracerylaw07.SphereDrops'. -/
def sphereDropsCard : Claim7 := { stood := { row := sphereDropsRow, standIns := [], harness := (true, "6ae49ef0ca7132daa05a0832749915a36fa339af90f25b1d86f3f6aca69ebbca"), looks := false }, kinds := [], alts := [], laidByText := true, laidKinds := [.data, .pinned], laidTests := true, laidLooks := .later }
def SphereDropsCardSaid : Prop := Claim7.holds Tryz.pinned (.plain (OpenSpec.ofChange sphereDropsSpec)) sphereDropsCard

/-- THE TIED CARD OF 'tracerylaw07.SphereBall'. -/
def sphereBallCard : Claim7 := { stood := { row := sphereBallRow, standIns := [], harness := (true, "6ae49ef0ca7132daa05a0832749915a36fa339af90f25b1d86f3f6aca69ebbca"), looks := false }, kinds := [], alts := [], laidByText := true, laidKinds := [.data, .pinned], laidTests := true, laidLooks := .later }
def SphereBallCardSaid : Prop := Claim7.holds Tryz.pinned (.plain (OpenSpec.ofChange sphereBallSpec)) sphereBallCard

/-- THE TIED CARD OF 'tracerylaw11.CircTexts'. -/
def circTextsCard : Claim7 := { stood := { row := circTextsRow, standIns := [], harness := (true, "6ae49ef0ca7132daa05a0832749915a36fa339af90f25b1d86f3f6aca69ebbca"), looks := false }, kinds := [], alts := [], laidByText := true, laidKinds := [.data, .pinned], laidTests := true, laidLooks := .later }
def CircTextsCardSaid : Prop := Claim7.holds Tryz.pinned (.plain (OpenSpec.ofChange circTextsSpec)) circTextsCard

/-- THE TIED CARD OF 'tracerylaw08.MobTexts'. -/
def mobTextsCard : Claim7 := { stood := { row := mobTextsRow, standIns := [], harness := (true, "6ae49ef0ca7132daa05a0832749915a36fa339af90f25b1d86f3f6aca69ebbca"), looks := false }, kinds := [], alts := [], laidByText := true, laidKinds := [.data, .pinned], laidTests := true, laidLooks := .later }
def MobTextsCardSaid : Prop := Claim7.holds Tryz.pinned (.plain (OpenSpec.ofChange mobTextsSpec)) mobTextsCard

/-- THE TIED CARD OF 'tracerylaw08.MobGroup'. -/
def mobGroupCard : Claim7 := { stood := { row := mobGroupRow, standIns := [], harness := (true, "6ae49ef0ca7132daa05a0832749915a36fa339af90f25b1d86f3f6aca69ebbca"), looks := false }, kinds := [], alts := [], laidByText := true, laidKinds := [.data, .pinned], laidTests := true, laidLooks := .later }
def MobGroupCardSaid : Prop := Claim7.holds Tryz.pinned (.plain (OpenSpec.ofChange mobGroupSpec)) mobGroupCard

/-- THE TIED CARD OF 'tracerylaw11.CircKeeps'. -/
def circKeepsCard : Claim7 := { stood := { row := circKeepsRow, standIns := [], harness := (true, "6ae49ef0ca7132daa05a0832749915a36fa339af90f25b1d86f3f6aca69ebbca"), looks := false }, kinds := [], alts := [], laidByText := true, laidKinds := [.data, .pinned], laidTests := true, laidLooks := .later }
def CircKeepsCardSaid : Prop := Claim7.holds Tryz.pinned (.plain (OpenSpec.ofChange circKeepsSpec)) circKeepsCard

/-- THE SECOND FORM's CARD OF 'tracerytop.TopBack'. -/
def topBackUptoCard : Claim7 := { stood := { row := topBackUptoRow, standIns := [], harness := (true, "6ae49ef0ca7132daa05a0832749915a36fa339af90f25b1d86f3f6aca69ebbca"), looks := false }, kinds := [], alts := [], laidByText := true, laidKinds := [.data, .pinned], laidTests := true, laidLooks := .later }
def TopBackUptoCardSaid : Prop := Claim7.holds Tryz.pinned (.plain (OpenSpec.upto topBackSpec)) topBackUptoCard

/-- THE SECOND FORM's CARD OF 'tracerylaw03.FracTexts'. -/
def fracTextsUptoCard : Claim7 := { stood := { row := fracTextsUptoRow, standIns := [], harness := (true, "6ae49ef0ca7132daa05a0832749915a36fa339af90f25b1d86f3f6aca69ebbca"), looks := false }, kinds := [], alts := [], laidByText := true, laidKinds := [.data, .pinned], laidTests := true, laidLooks := .later }
def FracTextsUptoCardSaid : Prop := Claim7.holds Tryz.pinned (.plain (OpenSpec.upto fracTextsSpec)) fracTextsUptoCard

/-- THE SECOND FORM's CARD OF 'tracerylaw04.GaussTexts'. -/
def gaussTextsUptoCard : Claim7 := { stood := { row := gaussTextsUptoRow, standIns := [], harness := (true, "6ae49ef0ca7132daa05a0832749915a36fa339af90f25b1d86f3f6aca69ebbca"), looks := false }, kinds := [], alts := [], laidByText := true, laidKinds := [.data, .pinned], laidTests := true, laidLooks := .later }
def GaussTextsUptoCardSaid : Prop := Claim7.holds Tryz.pinned (.plain (OpenSpec.upto gaussTextsSpec)) gaussTextsUptoCard

/-- THE SECOND FORM's CARD OF 'tracerylaw04.GaussNames'. -/
def gaussNamesUptoCard : Claim7 := { stood := { row := gaussNamesUptoRow, standIns := [], harness := (true, "6ae49ef0ca7132daa05a0832749915a36fa339af90f25b1d86f3f6aca69ebbca"), looks := false }, kinds := [], alts := [], laidByText := true, laidKinds := [.data, .pinned], laidTests := true, laidLooks := .later }
def GaussNamesUptoCardSaid : Prop := Claim7.holds Tryz.pinned (.plain (OpenSpec.upto gaussNamesSpec)) gaussNamesUptoCard

/-- THE SECOND FORM's CARD OF 'tracerylaw07.SphereDrops'. -/
def sphereDropsUptoCard : Claim7 := { stood := { row := sphereDropsUptoRow, standIns := [], harness := (true, "6ae49ef0ca7132daa05a0832749915a36fa339af90f25b1d86f3f6aca69ebbca"), looks := false }, kinds := [], alts := [], laidByText := true, laidKinds := [.data, .pinned], laidTests := true, laidLooks := .later }
def SphereDropsUptoCardSaid : Prop := Claim7.holds Tryz.pinned (.plain (OpenSpec.upto sphereDropsSpec)) sphereDropsUptoCard

/-- THE SECOND FORM's CARD OF 'tracerylaw07.SphereBall'. -/
def sphereBallUptoCard : Claim7 := { stood := { row := sphereBallUptoRow, standIns := [], harness := (true, "6ae49ef0ca7132daa05a0832749915a36fa339af90f25b1d86f3f6aca69ebbca"), looks := false }, kinds := [], alts := [], laidByText := true, laidKinds := [.data, .pinned], laidTests := true, laidLooks := .later }
def SphereBallUptoCardSaid : Prop := Claim7.holds Tryz.pinned (.plain (OpenSpec.upto sphereBallSpec)) sphereBallUptoCard

/-- THE SECOND FORM's CARD OF 'tracerylaw11.CircTexts'. -/
def circTextsUptoCard : Claim7 := { stood := { row := circTextsUptoRow, standIns := [], harness := (true, "6ae49ef0ca7132daa05a0832749915a36fa339af90f25b1d86f3f6aca69ebbca"), looks := false }, kinds := [], alts := [], laidByText := true, laidKinds := [.data, .pinned], laidTests := true, laidLooks := .later }
def CircTextsUptoCardSaid : Prop := Claim7.holds Tryz.pinned (.plain (OpenSpec.upto circTextsSpec)) circTextsUptoCard

/-- THE SECOND FORM's CARD OF 'tracerylaw08.MobTexts'. -/
def mobTextsUptoCard : Claim7 := { stood := { row := mobTextsUptoRow, standIns := [], harness := (true, "6ae49ef0ca7132daa05a0832749915a36fa339af90f25b1d86f3f6aca69ebbca"), looks := false }, kinds := [], alts := [], laidByText := true, laidKinds := [.data, .pinned], laidTests := true, laidLooks := .later }
def MobTextsUptoCardSaid : Prop := Claim7.holds Tryz.pinned (.plain (OpenSpec.upto mobTextsSpec)) mobTextsUptoCard

/-- THE SECOND FORM's CARD OF 'tracerylaw08.MobGroup'. -/
def mobGroupUptoCard : Claim7 := { stood := { row := mobGroupUptoRow, standIns := [], harness := (true, "6ae49ef0ca7132daa05a0832749915a36fa339af90f25b1d86f3f6aca69ebbca"), looks := false }, kinds := [], alts := [], laidByText := true, laidKinds := [.data, .pinned], laidTests := true, laidLooks := .later }
def MobGroupUptoCardSaid : Prop := Claim7.holds Tryz.pinned (.plain (OpenSpec.upto mobGroupSpec)) mobGroupUptoCard

/-- THE SECOND FORM's CARD OF 'tracerylaw11.CircKeeps'. -/
def circKeepsUptoCard : Claim7 := { stood := { row := circKeepsUptoRow, standIns := [], harness := (true, "6ae49ef0ca7132daa05a0832749915a36fa339af90f25b1d86f3f6aca69ebbca"), looks := false }, kinds := [], alts := [], laidByText := true, laidKinds := [.data, .pinned], laidTests := true, laidLooks := .later }
def CircKeepsUptoCardSaid : Prop := Claim7.holds Tryz.pinned (.plain (OpenSpec.upto circKeepsSpec)) circKeepsUptoCard
end Rows
end Go.Proofs.YthkpghhoffihmaaGreatDoor
