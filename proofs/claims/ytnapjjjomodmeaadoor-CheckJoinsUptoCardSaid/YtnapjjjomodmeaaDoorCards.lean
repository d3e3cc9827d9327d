/-
  DERIVED. GIVEN WITH THE SEED: THE CARDS: each row of YtnapjjjomodmeaaDoorRows.lean that lists a variable, with what it lists TIED to the program's text (the seventh form; the later family's looks); each row that meets fmt, with fmt's text TOLD by the authors' own Lean function (tested against real Go, not proved from fmt's source: count such statements apart). THE CARD IS WHAT COUNTS. Prove the row's statement (the work); the ties are given (YtnapjjjomodmeaaDoorTie.lean); close each card by the builder's one call (the guide's Derived/Test/ToyasCard.lean, 'card_holds'). Laid BY PROGRAM, IN A SANDBOX (cutbox-door.mjs). By AI agents, Wed Nov 11 2026. No macro, syntax, notation, axiom, sorry.
-/
import Derived.Test.YtnapjjjomodmeaaDoorRows
import GoSem.ClaimSeven
namespace Go.Proofs.YtnapjjjomodmeaaDoor
namespace Rows

/-- THE TIED CARD OF 'morainelaw02.CheckSums'. -/
def checkSumsCard : Claim7 := { stood := { row := checkSumsRow, standIns := [], harness := (true, "1c5da1c4da81f3a7d98e0f5101ff26f156996879c52b2767865ddba7559b17a9"), looks := false }, kinds := [], alts := [], laidByText := true, laidKinds := [.data], laidTests := true, laidLooks := .later }
def CheckSumsCardSaid : Prop := Claim7.holds Tryd.pinned (.plain (OpenSpec.ofChange checkSumsSpec)) checkSumsCard

/-- THE TIED CARD OF 'morainelaw02.CheckBursts'. -/
def checkBurstsCard : Claim7 := { stood := { row := checkBurstsRow, standIns := [], harness := (true, "1c5da1c4da81f3a7d98e0f5101ff26f156996879c52b2767865ddba7559b17a9"), looks := false }, kinds := [], alts := [], laidByText := true, laidKinds := [.data], laidTests := true, laidLooks := .later }
def CheckBurstsCardSaid : Prop := Claim7.holds Tryd.pinned (.plain (OpenSpec.ofChange checkBurstsSpec)) checkBurstsCard

/-- THE TIED CARD OF 'morainelaw02.CheckLinear'. -/
def checkLinearCard : Claim7 := { stood := { row := checkLinearRow, standIns := [], harness := (true, "1c5da1c4da81f3a7d98e0f5101ff26f156996879c52b2767865ddba7559b17a9"), looks := false }, kinds := [], alts := [], laidByText := true, laidKinds := [.data], laidTests := true, laidLooks := .later }
def CheckLinearCardSaid : Prop := Claim7.holds Tryd.pinned (.plain (OpenSpec.ofChange checkLinearSpec)) checkLinearCard

/-- THE TIED CARD OF 'morainelaw02.CheckPatches'. -/
def checkPatchesCard : Claim7 := { stood := { row := checkPatchesRow, standIns := [], harness := (true, "1c5da1c4da81f3a7d98e0f5101ff26f156996879c52b2767865ddba7559b17a9"), looks := false }, kinds := [], alts := [], laidByText := true, laidKinds := [.data], laidTests := true, laidLooks := .later }
def CheckPatchesCardSaid : Prop := Claim7.holds Tryd.pinned (.plain (OpenSpec.ofChange checkPatchesSpec)) checkPatchesCard

/-- THE TIED CARD OF 'morainelaw02.CheckForged'. -/
def checkForgedCard : Claim7 := { stood := { row := checkForgedRow, standIns := [], harness := (true, "1c5da1c4da81f3a7d98e0f5101ff26f156996879c52b2767865ddba7559b17a9"), looks := false }, kinds := [], alts := [], laidByText := true, laidKinds := [.data], laidTests := true, laidLooks := .later }
def CheckForgedCardSaid : Prop := Claim7.holds Tryd.pinned (.plain (OpenSpec.ofChange checkForgedSpec)) checkForgedCard

/-- THE TIED CARD OF 'morainelaw02.CheckJoins'. -/
def checkJoinsCard : Claim7 := { stood := { row := checkJoinsRow, standIns := [], harness := (true, "1c5da1c4da81f3a7d98e0f5101ff26f156996879c52b2767865ddba7559b17a9"), looks := false }, kinds := [], alts := [], laidByText := true, laidKinds := [.data], laidTests := true, laidLooks := .later }
def CheckJoinsCardSaid : Prop := Claim7.holds Tryd.pinned (.plain (OpenSpec.ofChange checkJoinsSpec)) checkJoinsCard

/-- THE SECOND FORM's CARD OF 'morainelaw02.CheckSums'. -/
def checkSumsUptoCard : Claim7 := { stood := { row := checkSumsUptoRow, standIns := [], harness := (true, "1c5da1c4da81f3a7d98e0f5101ff26f156996879c52b2767865ddba7559b17a9"), looks := false }, kinds := [], alts := [], laidByText := true, laidKinds := [.data], laidTests := true, laidLooks := .later }
def CheckSumsUptoCardSaid : Prop := Claim7.holds Tryd.pinned (.plain (OpenSpec.upto checkSumsSpec)) checkSumsUptoCard

/-- THE SECOND FORM's CARD OF 'morainelaw02.CheckBursts'. -/
def checkBurstsUptoCard : Claim7 := { stood := { row := checkBurstsUptoRow, standIns := [], harness := (true, "1c5da1c4da81f3a7d98e0f5101ff26f156996879c52b2767865ddba7559b17a9"), looks := false }, kinds := [], alts := [], laidByText := true, laidKinds := [.data], laidTests := true, laidLooks := .later }
def CheckBurstsUptoCardSaid : Prop := Claim7.holds Tryd.pinned (.plain (OpenSpec.upto checkBurstsSpec)) checkBurstsUptoCard

/-- THE SECOND FORM's CARD OF 'morainelaw02.CheckLinear'. -/
def checkLinearUptoCard : Claim7 := { stood := { row := checkLinearUptoRow, standIns := [], harness := (true, "1c5da1c4da81f3a7d98e0f5101ff26f156996879c52b2767865ddba7559b17a9"), looks := false }, kinds := [], alts := [], laidByText := true, laidKinds := [.data], laidTests := true, laidLooks := .later }
def CheckLinearUptoCardSaid : Prop := Claim7.holds Tryd.pinned (.plain (OpenSpec.upto checkLinearSpec)) checkLinearUptoCard

/-- THE SECOND FORM's CARD OF 'morainelaw02.CheckPatches'. -/
def checkPatchesUptoCard : Claim7 := { stood := { row := checkPatchesUptoRow, standIns := [], harness := (true, "1c5da1c4da81f3a7d98e0f5101ff26f156996879c52b2767865ddba7559b17a9"), looks := false }, kinds := [], alts := [], laidByText := true, laidKinds := [.data], laidTests := true, laidLooks := .later }
def CheckPatchesUptoCardSaid : Prop := Claim7.holds Tryd.pinned (.plain (OpenSpec.upto checkPatchesSpec)) checkPatchesUptoCard

/-- THE SECOND FORM's CARD OF 'morainelaw02.CheckForged'. -/
def checkForgedUptoCard : Claim7 := { stood := { row := checkForgedUptoRow, standIns := [], harness := (true, "1c5da1c4da81f3a7d98e0f5101ff26f156996879c52b2767865ddba7559b17a9"), looks := false }, kinds := [], alts := [], laidByText := true, laidKinds := [.data], laidTests := true, laidLooks := .later }
def CheckForgedUptoCardSaid : Prop := Claim7.holds Tryd.pinned (.plain (OpenSpec.upto checkForgedSpec)) checkForgedUptoCard

/-- THE SECOND FORM's CARD OF 'morainelaw02.CheckJoins'. -/
def checkJoinsUptoCard : Claim7 := { stood := { row := checkJoinsUptoRow, standIns := [], harness := (true, "1c5da1c4da81f3a7d98e0f5101ff26f156996879c52b2767865ddba7559b17a9"), looks := false }, kinds := [], alts := [], laidByText := true, laidKinds := [.data], laidTests := true, laidLooks := .later }
def CheckJoinsUptoCardSaid : Prop := Claim7.holds Tryd.pinned (.plain (OpenSpec.upto checkJoinsSpec)) checkJoinsUptoCard
end Rows
end Go.Proofs.YtnapjjjomodmeaaDoor
