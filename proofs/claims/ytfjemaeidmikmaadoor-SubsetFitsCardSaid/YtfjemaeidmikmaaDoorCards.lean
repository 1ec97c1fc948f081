/-
  DERIVED. GIVEN WITH THE SEED: THE CARDS: each row of YtfjemaeidmikmaaDoorRows.lean that lists a variable, with what it lists TIED to the program's text (the seventh form; the later family's looks); each row that meets fmt, with fmt's text TOLD by the authors' own Lean function (tested against real Go, not proved from fmt's source: count such statements apart). THE CARD IS WHAT COUNTS. Prove the row's statement (the work); the ties are given (YtfjemaeidmikmaaDoorTie.lean); close each card by the builder's one call (the guide's Derived/Test/ToyasCard.lean, 'card_holds'). Laid BY PROGRAM, IN A SANDBOX (cutbox-door.mjs). By AI agents, Wed Nov 11 2026. No macro, syntax, notation, axiom, sorry.
-/
import Derived.Test.YtfjemaeidmikmaaDoorRows
import GoSem.ClaimSeven
namespace Go.Proofs.YtfjemaeidmikmaaDoor
namespace Rows

/-- THE TIED CARD OF 'tattinglaw11.SubsetBuilds'. -/
def subsetBuildsCard : Claim7 := { stood := { row := subsetBuildsRow, standIns := [], harness := (true, "264fc2fba7bc5d6343665b06dfc27f5e51c8beb8abda5312a32fc721b85d84b3"), looks := false }, kinds := [], alts := [], laidByText := true, laidKinds := [.data], laidTests := true, laidLooks := .later }
def SubsetBuildsCardSaid : Prop := Claim7.holds Tryd.pinned (.plain (OpenSpec.ofChange subsetBuildsSpec)) subsetBuildsCard

/-- THE TIED CARD OF 'tattinglaw11.SubsetCounts'. -/
def subsetCountsCard : Claim7 := { stood := { row := subsetCountsRow, standIns := [], harness := (true, "264fc2fba7bc5d6343665b06dfc27f5e51c8beb8abda5312a32fc721b85d84b3"), looks := false }, kinds := [], alts := [], laidByText := true, laidKinds := [.data], laidTests := true, laidLooks := .later }
def SubsetCountsCardSaid : Prop := Claim7.holds Tryd.pinned (.plain (OpenSpec.ofChange subsetCountsSpec)) subsetCountsCard

/-- THE TIED CARD OF 'tattinglaw11.SubsetFits'. -/
def subsetFitsCard : Claim7 := { stood := { row := subsetFitsRow, standIns := [], harness := (true, "264fc2fba7bc5d6343665b06dfc27f5e51c8beb8abda5312a32fc721b85d84b3"), looks := false }, kinds := [], alts := [], laidByText := true, laidKinds := [.data], laidTests := true, laidLooks := .later }
def SubsetFitsCardSaid : Prop := Claim7.holds Tryd.pinned (.plain (OpenSpec.ofChange subsetFitsSpec)) subsetFitsCard

/-- THE SECOND FORM's CARD OF 'tattinglaw11.SubsetBuilds'. -/
def subsetBuildsUptoCard : Claim7 := { stood := { row := subsetBuildsUptoRow, standIns := [], harness := (true, "264fc2fba7bc5d6343665b06dfc27f5e51c8beb8abda5312a32fc721b85d84b3"), looks := false }, kinds := [], alts := [], laidByText := true, laidKinds := [.data], laidTests := true, laidLooks := .later }
def SubsetBuildsUptoCardSaid : Prop := Claim7.holds Tryd.pinned (.plain (OpenSpec.upto subsetBuildsSpec)) subsetBuildsUptoCard

/-- THE SECOND FORM's CARD OF 'tattinglaw11.SubsetCounts'. -/
def subsetCountsUptoCard : Claim7 := { stood := { row := subsetCountsUptoRow, standIns := [], harness := (true, "264fc2fba7bc5d6343665b06dfc27f5e51c8beb8abda5312a32fc721b85d84b3"), looks := false }, kinds := [], alts := [], laidByText := true, laidKinds := [.data], laidTests := true, laidLooks := .later }
def SubsetCountsUptoCardSaid : Prop := Claim7.holds Tryd.pinned (.plain (OpenSpec.upto subsetCountsSpec)) subsetCountsUptoCard

/-- THE SECOND FORM's CARD OF 'tattinglaw11.SubsetFits'. -/
def subsetFitsUptoCard : Claim7 := { stood := { row := subsetFitsUptoRow, standIns := [], harness := (true, "264fc2fba7bc5d6343665b06dfc27f5e51c8beb8abda5312a32fc721b85d84b3"), looks := false }, kinds := [], alts := [], laidByText := true, laidKinds := [.data], laidTests := true, laidLooks := .later }
def SubsetFitsUptoCardSaid : Prop := Claim7.holds Tryd.pinned (.plain (OpenSpec.upto subsetFitsSpec)) subsetFitsUptoCard
end Rows
end Go.Proofs.YtfjemaeidmikmaaDoor
