/-
  DERIVED. GIVEN WITH THE SEED: THE CARDS: each row of YtmmfplogkikbjaaDoorRows.lean that lists a variable, with what it lists TIED to the program's text (the seventh form; the later family's looks); each row that meets fmt, with fmt's text TOLD by the authors' own Lean function (tested against real Go, not proved from fmt's source: count such statements apart). THE CARD IS WHAT COUNTS. Prove the row's statement (the work); the ties are given (YtmmfplogkikbjaaDoorTie.lean); close each card by the builder's one call (the guide's Derived/Test/ToyasCard.lean, 'card_holds'). Laid BY PROGRAM, IN A SANDBOX (cutbox-door.mjs). By AI agents, Wed Nov 11 2026. No macro, syntax, notation, axiom, sorry.
-/
import Derived.Test.YtmmfplogkikbjaaDoorRows
import GoSem.ClaimSeven
namespace Go.Proofs.YtmmfplogkikbjaaDoor
namespace Rows

/-- THE TIED CARD OF 'caulklaw10.SuperTells'. -/
def superTellsCard : Claim7 := { stood := { row := superTellsRow, standIns := [], harness := (true, "b3ab33d2cfedb601e5228cea9a7a60e20caf8ba16d772e9b0812510e35c4f745"), looks := false }, kinds := [], alts := [], laidByText := true, laidKinds := [.data], laidTests := true, laidLooks := .later }
def SuperTellsCardSaid : Prop := Claim7.holds Tryd.pinned (.plain (OpenSpec.ofChange superTellsSpec)) superTellsCard

/-- THE TIED CARD OF 'caulklaw10.SuperBack'. -/
def superBackCard : Claim7 := { stood := { row := superBackRow, standIns := [], harness := (true, "b3ab33d2cfedb601e5228cea9a7a60e20caf8ba16d772e9b0812510e35c4f745"), looks := false }, kinds := [], alts := [], laidByText := true, laidKinds := [.data], laidTests := true, laidLooks := .later }
def SuperBackCardSaid : Prop := Claim7.holds Tryd.pinned (.plain (OpenSpec.ofChange superBackSpec)) superBackCard

/-- THE TIED CARD OF 'caulklaw09.PagesBuilds'. -/
def pagesBuildsCard : Claim7 := { stood := { row := pagesBuildsRow, standIns := [], harness := (true, "b3ab33d2cfedb601e5228cea9a7a60e20caf8ba16d772e9b0812510e35c4f745"), looks := false }, kinds := [], alts := [], laidByText := true, laidKinds := [.data], laidTests := true, laidLooks := .later }
def PagesBuildsCardSaid : Prop := Claim7.holds Tryd.pinned (.plain (OpenSpec.ofChange pagesBuildsSpec)) pagesBuildsCard

/-- THE TIED CARD OF 'caulklaw09.PagesBack'. -/
def pagesBackCard : Claim7 := { stood := { row := pagesBackRow, standIns := [], harness := (true, "b3ab33d2cfedb601e5228cea9a7a60e20caf8ba16d772e9b0812510e35c4f745"), looks := false }, kinds := [], alts := [], laidByText := true, laidKinds := [.data], laidTests := true, laidLooks := .later }
def PagesBackCardSaid : Prop := Claim7.holds Tryd.pinned (.plain (OpenSpec.ofChange pagesBackSpec)) pagesBackCard

/-- THE TIED CARD OF 'caulklaw10.SuperFinds'. -/
def superFindsCard : Claim7 := { stood := { row := superFindsRow, standIns := [], harness := (true, "b3ab33d2cfedb601e5228cea9a7a60e20caf8ba16d772e9b0812510e35c4f745"), looks := false }, kinds := [], alts := [], laidByText := true, laidKinds := [.data], laidTests := true, laidLooks := .later }
def SuperFindsCardSaid : Prop := Claim7.holds Tryd.pinned (.plain (OpenSpec.ofChange superFindsSpec)) superFindsCard

/-- THE SECOND FORM's CARD OF 'caulklaw10.SuperTells'. -/
def superTellsUptoCard : Claim7 := { stood := { row := superTellsUptoRow, standIns := [], harness := (true, "b3ab33d2cfedb601e5228cea9a7a60e20caf8ba16d772e9b0812510e35c4f745"), looks := false }, kinds := [], alts := [], laidByText := true, laidKinds := [.data], laidTests := true, laidLooks := .later }
def SuperTellsUptoCardSaid : Prop := Claim7.holds Tryd.pinned (.plain (OpenSpec.upto superTellsSpec)) superTellsUptoCard

/-- THE SECOND FORM's CARD OF 'caulklaw10.SuperBack'. -/
def superBackUptoCard : Claim7 := { stood := { row := superBackUptoRow, standIns := [], harness := (true, "b3ab33d2cfedb601e5228cea9a7a60e20caf8ba16d772e9b0812510e35c4f745"), looks := false }, kinds := [], alts := [], laidByText := true, laidKinds := [.data], laidTests := true, laidLooks := .later }
def SuperBackUptoCardSaid : Prop := Claim7.holds Tryd.pinned (.plain (OpenSpec.upto superBackSpec)) superBackUptoCard

/-- THE SECOND FORM's CARD OF 'caulklaw09.PagesBuilds'. -/
def pagesBuildsUptoCard : Claim7 := { stood := { row := pagesBuildsUptoRow, standIns := [], harness := (true, "b3ab33d2cfedb601e5228cea9a7a60e20caf8ba16d772e9b0812510e35c4f745"), looks := false }, kinds := [], alts := [], laidByText := true, laidKinds := [.data], laidTests := true, laidLooks := .later }
def PagesBuildsUptoCardSaid : Prop := Claim7.holds Tryd.pinned (.plain (OpenSpec.upto pagesBuildsSpec)) pagesBuildsUptoCard

/-- THE SECOND FORM's CARD OF 'caulklaw09.PagesBack'. -/
def pagesBackUptoCard : Claim7 := { stood := { row := pagesBackUptoRow, standIns := [], harness := (true, "b3ab33d2cfedb601e5228cea9a7a60e20caf8ba16d772e9b0812510e35c4f745"), looks := false }, kinds := [], alts := [], laidByText := true, laidKinds := [.data], laidTests := true, laidLooks := .later }
def PagesBackUptoCardSaid : Prop := Claim7.holds Tryd.pinned (.plain (OpenSpec.upto pagesBackSpec)) pagesBackUptoCard

/-- THE SECOND FORM's CARD OF 'caulklaw10.SuperFinds'. -/
def superFindsUptoCard : Claim7 := { stood := { row := superFindsUptoRow, standIns := [], harness := (true, "b3ab33d2cfedb601e5228cea9a7a60e20caf8ba16d772e9b0812510e35c4f745"), looks := false }, kinds := [], alts := [], laidByText := true, laidKinds := [.data], laidTests := true, laidLooks := .later }
def SuperFindsUptoCardSaid : Prop := Claim7.holds Tryd.pinned (.plain (OpenSpec.upto superFindsSpec)) superFindsUptoCard
end Rows
end Go.Proofs.YtmmfplogkikbjaaDoor
