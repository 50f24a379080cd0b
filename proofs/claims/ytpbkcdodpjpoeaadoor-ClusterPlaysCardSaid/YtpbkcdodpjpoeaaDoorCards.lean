/-
  DERIVED. GIVEN WITH THE SEED: THE CARDS: each row of YtpbkcdodpjpoeaaDoorRows.lean that lists a variable, with what it lists TIED to the program's text (the seventh form; the later family's looks); each row that meets fmt, with fmt's text TOLD by the authors' own Lean function (tested against real Go, not proved from fmt's source: count such statements apart). THE CARD IS WHAT COUNTS. Prove the row's statement (the work); the ties are given (YtpbkcdodpjpoeaaDoorTie.lean); close each card by the builder's one call (the guide's Derived/Test/ToyasCard.lean, 'card_holds'). Laid BY PROGRAM, IN A SANDBOX (cutbox-door.mjs). By AI agents, Wed Nov 11 2026. No macro, syntax, notation, axiom, sorry.
-/
import Derived.Test.YtpbkcdodpjpoeaaDoorRows
import GoSem.ClaimSeven
namespace Go.Proofs.YtpbkcdodpjpoeaaDoor
namespace Rows

/-- THE TIED CARD OF 'caulklaw08.ClusterBack'. -/
def clusterBackCard : Claim7 := { stood := { row := clusterBackRow, standIns := [], harness := (true, "525fefd5194dd91af1d55699054af0ec702a0c53c27f919466547c11b5fc85ed"), looks := false }, kinds := [], alts := [], laidByText := true, laidKinds := [.data], laidTests := true, laidLooks := .later }
def ClusterBackCardSaid : Prop := Claim7.holds Tryd.pinned (.plain (OpenSpec.ofChange clusterBackSpec)) clusterBackCard

/-- THE TIED CARD OF 'caulklaw08.ClusterPlays'. -/
def clusterPlaysCard : Claim7 := { stood := { row := clusterPlaysRow, standIns := [], harness := (true, "525fefd5194dd91af1d55699054af0ec702a0c53c27f919466547c11b5fc85ed"), looks := false }, kinds := [], alts := [], laidByText := true, laidKinds := [.data], laidTests := true, laidLooks := .later }
def ClusterPlaysCardSaid : Prop := Claim7.holds Tryd.pinned (.plain (OpenSpec.ofChange clusterPlaysSpec)) clusterPlaysCard

/-- THE SECOND FORM's CARD OF 'caulklaw08.ClusterBack'. -/
def clusterBackUptoCard : Claim7 := { stood := { row := clusterBackUptoRow, standIns := [], harness := (true, "525fefd5194dd91af1d55699054af0ec702a0c53c27f919466547c11b5fc85ed"), looks := false }, kinds := [], alts := [], laidByText := true, laidKinds := [.data], laidTests := true, laidLooks := .later }
def ClusterBackUptoCardSaid : Prop := Claim7.holds Tryd.pinned (.plain (OpenSpec.upto clusterBackSpec)) clusterBackUptoCard

/-- THE SECOND FORM's CARD OF 'caulklaw08.ClusterPlays'. -/
def clusterPlaysUptoCard : Claim7 := { stood := { row := clusterPlaysUptoRow, standIns := [], harness := (true, "525fefd5194dd91af1d55699054af0ec702a0c53c27f919466547c11b5fc85ed"), looks := false }, kinds := [], alts := [], laidByText := true, laidKinds := [.data], laidTests := true, laidLooks := .later }
def ClusterPlaysUptoCardSaid : Prop := Claim7.holds Tryd.pinned (.plain (OpenSpec.upto clusterPlaysSpec)) clusterPlaysUptoCard
end Rows
end Go.Proofs.YtpbkcdodpjpoeaaDoor
