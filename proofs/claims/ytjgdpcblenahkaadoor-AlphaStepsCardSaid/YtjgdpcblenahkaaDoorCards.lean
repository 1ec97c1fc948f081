/-
  DERIVED. GIVEN WITH THE SEED: THE CARDS: each row of YtjgdpcblenahkaaDoorRows.lean that lists a variable, with what it lists TIED to the program's text (the seventh form; the later family's looks); each row that meets fmt, with fmt's text TOLD by the authors' own Lean function (tested against real Go, not proved from fmt's source: count such statements apart). THE CARD IS WHAT COUNTS. Prove the row's statement (the work); the ties are given (YtjgdpcblenahkaaDoorTie.lean); close each card by the builder's one call (the guide's Derived/Test/ToyasCard.lean, 'card_holds'). Laid BY PROGRAM, IN A SANDBOX (cutbox-door.mjs). By AI agents, Wed Nov 11 2026. No macro, syntax, notation, axiom, sorry.
-/
import Derived.Test.YtjgdpcblenahkaaDoorRows
import GoSem.ClaimSeven
namespace Go.Proofs.YtjgdpcblenahkaaDoor
namespace Rows

/-- THE TIED CARD OF 'tattinglaw01.ByteSetTurns'. -/
def byteSetTurnsCard : Claim7 := { stood := { row := byteSetTurnsRow, standIns := [], harness := (true, "a1d4a92ed8998a88496a931bd58d3091c9fac11f1a75ea850522da2dd8987695"), looks := false }, kinds := [], alts := [], laidByText := true, laidKinds := [.data], laidTests := true, laidLooks := .later }
def ByteSetTurnsCardSaid : Prop := Claim7.holds Tryd.pinned (.plain (OpenSpec.ofChange byteSetTurnsSpec)) byteSetTurnsCard

/-- THE TIED CARD OF 'tattinglaw01.ByteSetJoins'. -/
def byteSetJoinsCard : Claim7 := { stood := { row := byteSetJoinsRow, standIns := [], harness := (true, "a1d4a92ed8998a88496a931bd58d3091c9fac11f1a75ea850522da2dd8987695"), looks := false }, kinds := [], alts := [], laidByText := true, laidKinds := [.data], laidTests := true, laidLooks := .later }
def ByteSetJoinsCardSaid : Prop := Claim7.holds Tryd.pinned (.plain (OpenSpec.ofChange byteSetJoinsSpec)) byteSetJoinsCard

/-- THE TIED CARD OF 'tattinglaw01.ByteSetTells'. -/
def byteSetTellsCard : Claim7 := { stood := { row := byteSetTellsRow, standIns := [], harness := (true, "a1d4a92ed8998a88496a931bd58d3091c9fac11f1a75ea850522da2dd8987695"), looks := false }, kinds := [], alts := [], laidByText := true, laidKinds := [.data], laidTests := true, laidLooks := .later }
def ByteSetTellsCardSaid : Prop := Claim7.holds Tryd.pinned (.plain (OpenSpec.ofChange byteSetTellsSpec)) byteSetTellsCard

/-- THE TIED CARD OF 'tattinglaw10.AlphaClasses'. -/
def alphaClassesCard : Claim7 := { stood := { row := alphaClassesRow, standIns := [], harness := (true, "a1d4a92ed8998a88496a931bd58d3091c9fac11f1a75ea850522da2dd8987695"), looks := false }, kinds := [], alts := [], laidByText := true, laidKinds := [.data], laidTests := true, laidLooks := .later }
def AlphaClassesCardSaid : Prop := Claim7.holds Tryd.pinned (.plain (OpenSpec.ofChange alphaClassesSpec)) alphaClassesCard

/-- THE TIED CARD OF 'tattinglaw01.ByteSetRuns'. -/
def byteSetRunsCard : Claim7 := { stood := { row := byteSetRunsRow, standIns := [], harness := (true, "a1d4a92ed8998a88496a931bd58d3091c9fac11f1a75ea850522da2dd8987695"), looks := false }, kinds := [], alts := [], laidByText := true, laidKinds := [.data], laidTests := true, laidLooks := .later }
def ByteSetRunsCardSaid : Prop := Claim7.holds Tryd.pinned (.plain (OpenSpec.ofChange byteSetRunsSpec)) byteSetRunsCard

/-- THE TIED CARD OF 'tattinglaw10.AlphaSteps'. -/
def alphaStepsCard : Claim7 := { stood := { row := alphaStepsRow, standIns := [], harness := (true, "a1d4a92ed8998a88496a931bd58d3091c9fac11f1a75ea850522da2dd8987695"), looks := false }, kinds := [], alts := [], laidByText := true, laidKinds := [.data], laidTests := true, laidLooks := .later }
def AlphaStepsCardSaid : Prop := Claim7.holds Tryd.pinned (.plain (OpenSpec.ofChange alphaStepsSpec)) alphaStepsCard

/-- THE TIED CARD OF 'tattinglaw11.SubsetBuilds'. -/
def subsetBuildsCard : Claim7 := { stood := { row := subsetBuildsRow, standIns := [], harness := (true, "a1d4a92ed8998a88496a931bd58d3091c9fac11f1a75ea850522da2dd8987695"), looks := false }, kinds := [], alts := [], laidByText := true, laidKinds := [.data], laidTests := true, laidLooks := .later }
def SubsetBuildsCardSaid : Prop := Claim7.holds Tryd.pinned (.plain (OpenSpec.ofChange subsetBuildsSpec)) subsetBuildsCard

/-- THE TIED CARD OF 'tattinglaw11.SubsetCounts'. -/
def subsetCountsCard : Claim7 := { stood := { row := subsetCountsRow, standIns := [], harness := (true, "a1d4a92ed8998a88496a931bd58d3091c9fac11f1a75ea850522da2dd8987695"), looks := false }, kinds := [], alts := [], laidByText := true, laidKinds := [.data], laidTests := true, laidLooks := .later }
def SubsetCountsCardSaid : Prop := Claim7.holds Tryd.pinned (.plain (OpenSpec.ofChange subsetCountsSpec)) subsetCountsCard

/-- THE TIED CARD OF 'tattinglaw11.SubsetFits'. -/
def subsetFitsCard : Claim7 := { stood := { row := subsetFitsRow, standIns := [], harness := (true, "a1d4a92ed8998a88496a931bd58d3091c9fac11f1a75ea850522da2dd8987695"), looks := false }, kinds := [], alts := [], laidByText := true, laidKinds := [.data], laidTests := true, laidLooks := .later }
def SubsetFitsCardSaid : Prop := Claim7.holds Tryd.pinned (.plain (OpenSpec.ofChange subsetFitsSpec)) subsetFitsCard

/-- THE SECOND FORM's CARD OF 'tattinglaw01.ByteSetTurns'. -/
def byteSetTurnsUptoCard : Claim7 := { stood := { row := byteSetTurnsUptoRow, standIns := [], harness := (true, "a1d4a92ed8998a88496a931bd58d3091c9fac11f1a75ea850522da2dd8987695"), looks := false }, kinds := [], alts := [], laidByText := true, laidKinds := [.data], laidTests := true, laidLooks := .later }
def ByteSetTurnsUptoCardSaid : Prop := Claim7.holds Tryd.pinned (.plain (OpenSpec.upto byteSetTurnsSpec)) byteSetTurnsUptoCard

/-- THE SECOND FORM's CARD OF 'tattinglaw01.ByteSetJoins'. -/
def byteSetJoinsUptoCard : Claim7 := { stood := { row := byteSetJoinsUptoRow, standIns := [], harness := (true, "a1d4a92ed8998a88496a931bd58d3091c9fac11f1a75ea850522da2dd8987695"), looks := false }, kinds := [], alts := [], laidByText := true, laidKinds := [.data], laidTests := true, laidLooks := .later }
def ByteSetJoinsUptoCardSaid : Prop := Claim7.holds Tryd.pinned (.plain (OpenSpec.upto byteSetJoinsSpec)) byteSetJoinsUptoCard

/-- THE SECOND FORM's CARD OF 'tattinglaw01.ByteSetTells'. -/
def byteSetTellsUptoCard : Claim7 := { stood := { row := byteSetTellsUptoRow, standIns := [], harness := (true, "a1d4a92ed8998a88496a931bd58d3091c9fac11f1a75ea850522da2dd8987695"), looks := false }, kinds := [], alts := [], laidByText := true, laidKinds := [.data], laidTests := true, laidLooks := .later }
def ByteSetTellsUptoCardSaid : Prop := Claim7.holds Tryd.pinned (.plain (OpenSpec.upto byteSetTellsSpec)) byteSetTellsUptoCard

/-- THE SECOND FORM's CARD OF 'tattinglaw10.AlphaClasses'. -/
def alphaClassesUptoCard : Claim7 := { stood := { row := alphaClassesUptoRow, standIns := [], harness := (true, "a1d4a92ed8998a88496a931bd58d3091c9fac11f1a75ea850522da2dd8987695"), looks := false }, kinds := [], alts := [], laidByText := true, laidKinds := [.data], laidTests := true, laidLooks := .later }
def AlphaClassesUptoCardSaid : Prop := Claim7.holds Tryd.pinned (.plain (OpenSpec.upto alphaClassesSpec)) alphaClassesUptoCard

/-- THE SECOND FORM's CARD OF 'tattinglaw01.ByteSetRuns'. -/
def byteSetRunsUptoCard : Claim7 := { stood := { row := byteSetRunsUptoRow, standIns := [], harness := (true, "a1d4a92ed8998a88496a931bd58d3091c9fac11f1a75ea850522da2dd8987695"), looks := false }, kinds := [], alts := [], laidByText := true, laidKinds := [.data], laidTests := true, laidLooks := .later }
def ByteSetRunsUptoCardSaid : Prop := Claim7.holds Tryd.pinned (.plain (OpenSpec.upto byteSetRunsSpec)) byteSetRunsUptoCard

/-- THE SECOND FORM's CARD OF 'tattinglaw10.AlphaSteps'. -/
def alphaStepsUptoCard : Claim7 := { stood := { row := alphaStepsUptoRow, standIns := [], harness := (true, "a1d4a92ed8998a88496a931bd58d3091c9fac11f1a75ea850522da2dd8987695"), looks := false }, kinds := [], alts := [], laidByText := true, laidKinds := [.data], laidTests := true, laidLooks := .later }
def AlphaStepsUptoCardSaid : Prop := Claim7.holds Tryd.pinned (.plain (OpenSpec.upto alphaStepsSpec)) alphaStepsUptoCard

/-- THE SECOND FORM's CARD OF 'tattinglaw11.SubsetBuilds'. -/
def subsetBuildsUptoCard : Claim7 := { stood := { row := subsetBuildsUptoRow, standIns := [], harness := (true, "a1d4a92ed8998a88496a931bd58d3091c9fac11f1a75ea850522da2dd8987695"), looks := false }, kinds := [], alts := [], laidByText := true, laidKinds := [.data], laidTests := true, laidLooks := .later }
def SubsetBuildsUptoCardSaid : Prop := Claim7.holds Tryd.pinned (.plain (OpenSpec.upto subsetBuildsSpec)) subsetBuildsUptoCard

/-- THE SECOND FORM's CARD OF 'tattinglaw11.SubsetCounts'. -/
def subsetCountsUptoCard : Claim7 := { stood := { row := subsetCountsUptoRow, standIns := [], harness := (true, "a1d4a92ed8998a88496a931bd58d3091c9fac11f1a75ea850522da2dd8987695"), looks := false }, kinds := [], alts := [], laidByText := true, laidKinds := [.data], laidTests := true, laidLooks := .later }
def SubsetCountsUptoCardSaid : Prop := Claim7.holds Tryd.pinned (.plain (OpenSpec.upto subsetCountsSpec)) subsetCountsUptoCard

/-- THE SECOND FORM's CARD OF 'tattinglaw11.SubsetFits'. -/
def subsetFitsUptoCard : Claim7 := { stood := { row := subsetFitsUptoRow, standIns := [], harness := (true, "a1d4a92ed8998a88496a931bd58d3091c9fac11f1a75ea850522da2dd8987695"), looks := false }, kinds := [], alts := [], laidByText := true, laidKinds := [.data], laidTests := true, laidLooks := .later }
def SubsetFitsUptoCardSaid : Prop := Claim7.holds Tryd.pinned (.plain (OpenSpec.upto subsetFitsSpec)) subsetFitsUptoCard
end Rows
end Go.Proofs.YtjgdpcblenahkaaDoor
