/-
  NARROWER THAN 'FOR EVERY INPUT', by the rows' own cells (each row's printed sentence says how): SuperTells: laid · SuperBack: laid · PagesBuilds: laid · PagesBack: laid · SuperFinds: laid.
  DERIVED. THE GIVEN ROWS OF THIS SEAT. 5 by the template 'for every input the law returns true; each argument reads behind the call as it read before'; 0 by the template 'total and deterministic' (their statements: YtmmfplogkikbjaaDoorTotals.lean).
  GIVEN WITH THE SEED: the statements are not yours to turn. If you find one false, say at which input.
  Laid BY PROGRAM, IN A SANDBOX (cutbox-rows.mjs): the forced cells as the released guide's own fill.sh prints them over the translation e379717825dc7de6… (all of the seat's roots in one cut). By AI agents, Wed Nov 11 2026. No macro, syntax, notation, axiom, sorry.
-/
import Derived.Test.YtmmfplogkikbjaaDoorChecked
import GoSem.Claim
import GoSem.ClaimJoined
import GoSem.ClaimMapViews
import Derived.JoinedTies
import Derived.KernelRfl
namespace Go.Proofs.YtmmfplogkikbjaaDoor
/- THE CELL 'sum', in the pinned program and in every row, IS THE sha256 OF THE DUMP (.gsa) THAT YtmmfplogkikbjaaDoorProg.lean LOADS. Nothing in Lean hashes anything: it is a label: what it is worth is what the hold of that sum in a sandbox is worth. -/
noncomputable def Tryd.pinned : Pinned := { name := "ytmmfplogkikbjaadoor", sum := "e379717825dc7de6e6d5256a76284a7e3a95cdc9c5fca755efdfe0f73eb47ce6", checked := Tryd.checked }
namespace Rows
def none {H : Type} : Left H := { results := [], args := [] }

/- WHAT THE LISTED PACKAGE-LEVEL VARIABLES READ AS WHEN THE CALL BEGINS. Each datum BY PROGRAM (the guide's laid-datum.mjs) off the statement by which the dump's own 'gosem.cut.vars' lays the variable. In a bare row this is a premise. The card (YtmmfplogkikbjaaDoorCards.lean) ties it to the program's text. -/
def laid_caulk_crc_table {H : Type} : DataW H := .agg [.lit (.int .u32 0), .lit (.int .u32 274646895), .lit (.int .u32 549293790), .lit (.int .u32 820201905), .lit (.int .u32 1098587580), .lit (.int .u32 1361435347), .lit (.int .u32 1640403810), .lit (.int .u32 1905808397), .lit (.int .u32 2197175160), .lit (.int .u32 2460548119), .lit (.int .u32 2722870694), .lit (.int .u32 2987750089), .lit (.int .u32 3280807620), .lit (.int .u32 3553878443), .lit (.int .u32 3811616794), .lit (.int .u32 4084100981)]

/-- 'caulklaw10.SuperTells': WHATEVER THE INPUT: true; the input reads as it did. -/
def superTellsSpec : ChangeSpec := { name := "superTells", fn := fun _ => fun
  | [d1, d2] => { results := [.lit (.bool true)], args := [d1, d2] }
  | _ => none }
def superTellsRow : OpenClaim := { program := "ytmmfplogkikbjaadoor", sum := "e379717825dc7de6e6d5256a76284a7e3a95cdc9c5fca755efdfe0f73eb47ce6", func := "caulk/caulklaw10.SuperTells", spec := "superTells", unfollowed := true, recurses := true, named := ["caulk/crc.table"], apart := false, laid := [("caulk/crc.table", laid_caulk_crc_table)] }
def SuperTellsSaid : Prop := superTellsRow.holds Tryd.pinned (OpenSpec.ofChange superTellsSpec)

/-- ITS FALSE NEIGHBOUR: 'it returns false'. Refute it at one input. -/
def superTellsWrong : ChangeSpec := { name := "superTells", fn := fun _ => fun
  | [d1, d2] => { results := [.lit (.bool false)], args := [d1, d2] }
  | _ => none }
def SuperTellsWrongFalsely : Prop := superTellsRow.holds Tryd.pinned (OpenSpec.ofChange superTellsWrong)

/-- 'caulklaw10.SuperBack': WHATEVER THE INPUT: true; the input reads as it did. -/
def superBackSpec : ChangeSpec := { name := "superBack", fn := fun _ => fun
  | [d1, d2, d3] => { results := [.lit (.bool true)], args := [d1, d2, d3] }
  | _ => none }
def superBackRow : OpenClaim := { program := "ytmmfplogkikbjaadoor", sum := "e379717825dc7de6e6d5256a76284a7e3a95cdc9c5fca755efdfe0f73eb47ce6", func := "caulk/caulklaw10.SuperBack", spec := "superBack", unfollowed := true, recurses := true, named := ["caulk/crc.table"], apart := false, laid := [("caulk/crc.table", laid_caulk_crc_table)] }
def SuperBackSaid : Prop := superBackRow.holds Tryd.pinned (OpenSpec.ofChange superBackSpec)

/-- ITS FALSE NEIGHBOUR: 'it returns false'. Refute it at one input. -/
def superBackWrong : ChangeSpec := { name := "superBack", fn := fun _ => fun
  | [d1, d2, d3] => { results := [.lit (.bool false)], args := [d1, d2, d3] }
  | _ => none }
def SuperBackWrongFalsely : Prop := superBackRow.holds Tryd.pinned (OpenSpec.ofChange superBackWrong)

/-- 'caulklaw09.PagesBuilds': WHATEVER THE INPUT: true; the input reads as it did. -/
def pagesBuildsSpec : ChangeSpec := { name := "pagesBuilds", fn := fun _ => fun
  | [d1, d2, d3, d4] => { results := [.lit (.bool true)], args := [d1, d2, d3, d4] }
  | _ => none }
def pagesBuildsRow : OpenClaim := { program := "ytmmfplogkikbjaadoor", sum := "e379717825dc7de6e6d5256a76284a7e3a95cdc9c5fca755efdfe0f73eb47ce6", func := "caulk/caulklaw09.PagesBuilds", spec := "pagesBuilds", inPlace := ["internal/abi.NoEscape"], unfollowed := true, recurses := true, named := ["caulk/crc.table"], apart := false, laid := [("caulk/crc.table", laid_caulk_crc_table)] }
def PagesBuildsSaid : Prop := pagesBuildsRow.holds Tryd.pinned (OpenSpec.ofChange pagesBuildsSpec)

/-- ITS FALSE NEIGHBOUR: 'it returns false'. Refute it at one input. -/
def pagesBuildsWrong : ChangeSpec := { name := "pagesBuilds", fn := fun _ => fun
  | [d1, d2, d3, d4] => { results := [.lit (.bool false)], args := [d1, d2, d3, d4] }
  | _ => none }
def PagesBuildsWrongFalsely : Prop := pagesBuildsRow.holds Tryd.pinned (OpenSpec.ofChange pagesBuildsWrong)

/-- 'caulklaw09.PagesBack': WHATEVER THE INPUT: true; the input reads as it did. -/
def pagesBackSpec : ChangeSpec := { name := "pagesBack", fn := fun _ => fun
  | [d1, d2, d3, d4] => { results := [.lit (.bool true)], args := [d1, d2, d3, d4] }
  | _ => none }
def pagesBackRow : OpenClaim := { program := "ytmmfplogkikbjaadoor", sum := "e379717825dc7de6e6d5256a76284a7e3a95cdc9c5fca755efdfe0f73eb47ce6", func := "caulk/caulklaw09.PagesBack", spec := "pagesBack", inPlace := ["internal/abi.NoEscape"], unfollowed := true, recurses := true, named := ["caulk/crc.table"], apart := false, laid := [("caulk/crc.table", laid_caulk_crc_table)] }
def PagesBackSaid : Prop := pagesBackRow.holds Tryd.pinned (OpenSpec.ofChange pagesBackSpec)

/-- ITS FALSE NEIGHBOUR: 'it returns false'. Refute it at one input. -/
def pagesBackWrong : ChangeSpec := { name := "pagesBack", fn := fun _ => fun
  | [d1, d2, d3, d4] => { results := [.lit (.bool false)], args := [d1, d2, d3, d4] }
  | _ => none }
def PagesBackWrongFalsely : Prop := pagesBackRow.holds Tryd.pinned (OpenSpec.ofChange pagesBackWrong)

/-- 'caulklaw10.SuperFinds': WHATEVER THE INPUT: true; the input reads as it did. -/
def superFindsSpec : ChangeSpec := { name := "superFinds", fn := fun _ => fun
  | [d1, d2, d3, d4] => { results := [.lit (.bool true)], args := [d1, d2, d3, d4] }
  | _ => none }
def superFindsRow : OpenClaim := { program := "ytmmfplogkikbjaadoor", sum := "e379717825dc7de6e6d5256a76284a7e3a95cdc9c5fca755efdfe0f73eb47ce6", func := "caulk/caulklaw10.SuperFinds", spec := "superFinds", inPlace := ["internal/abi.NoEscape"], unfollowed := true, recurses := true, named := ["caulk/crc.table"], apart := false, laid := [("caulk/crc.table", laid_caulk_crc_table)] }
def SuperFindsSaid : Prop := superFindsRow.holds Tryd.pinned (OpenSpec.ofChange superFindsSpec)

/-- ITS FALSE NEIGHBOUR: 'it returns false'. Refute it at one input. -/
def superFindsWrong : ChangeSpec := { name := "superFinds", fn := fun _ => fun
  | [d1, d2, d3, d4] => { results := [.lit (.bool false)], args := [d1, d2, d3, d4] }
  | _ => none }
def SuperFindsWrongFalsely : Prop := superFindsRow.holds Tryd.pinned (OpenSpec.ofChange superFindsWrong)

/- THE SECOND FORM. 'bulk': how many values and letters a reading holds, each counted each time it is reached (what is shared counts as often as it is met; a slice's spare places count too). A statement '..UptoSaid' is the law's where the arguments, and the package variables that the reading takes, are together of bulk at most 1048576: NARROWER than '..Said'. Prove '..Said' where nothing that the law and all that it calls make is longer than what came in: it says more and counts as full. Else prove '..UptoSaid'. A law counts once. -/
mutual
def uptoBulk {H : Type} : DataW H → Nat
  | .lit (.string bytes) => bytes.length + 1
  | .lit _ => 1
  | .nil => 1
  | .ptr d => uptoBulk d + 1
  | .slice elems spare => uptoBulkAll elems + uptoBulkAll spare + 1
  | .agg parts => uptoBulkAll parts + 1
  | .iface _ d => uptoBulk d + 1
  | .map entries => uptoBulkEntries entries + 1
  | .held _ => 1
def uptoBulkAll {H : Type} : List (DataW H) → Nat
  | [] => 0
  | d :: r => uptoBulk d + uptoBulkAll r
def uptoBulkEntries {H : Type} : List (Lit × DataW H) → Nat
  | [] => 0
  | x :: r => uptoBulkEntry x + uptoBulkEntries r
def uptoBulkEntry {H : Type} : Lit × DataW H → Nat
  | (.string bytes, d) => bytes.length + uptoBulk d + 1
  | (_, d) => uptoBulk d + 1
 end
def uptoSmall : (H : Type) → List (DataW H) → Bool := fun _ ds => decide (uptoBulkAll ds ≤ 1048576)
def OpenSpec.upto (s : _root_.Go.ChangeSpec) : _root_.Go.OpenSpec := { _root_.Go.OpenSpec.ofChange s with cond := some uptoSmall }

/-- 'caulklaw10.SuperTells', WHERE WHAT IT READS IS OF BULK AT MOST 1048576: true; the input reads as it did. -/
def superTellsUptoRow : OpenClaim := { program := "ytmmfplogkikbjaadoor", sum := "e379717825dc7de6e6d5256a76284a7e3a95cdc9c5fca755efdfe0f73eb47ce6", func := "caulk/caulklaw10.SuperTells", spec := "superTells", unfollowed := true, recurses := true, named := ["caulk/crc.table"], apart := false, laid := [("caulk/crc.table", laid_caulk_crc_table)], narrowed := true }
def SuperTellsUptoSaid : Prop := superTellsUptoRow.holds Tryd.pinned (OpenSpec.upto superTellsSpec)

/-- 'caulklaw10.SuperBack', WHERE WHAT IT READS IS OF BULK AT MOST 1048576: true; the input reads as it did. -/
def superBackUptoRow : OpenClaim := { program := "ytmmfplogkikbjaadoor", sum := "e379717825dc7de6e6d5256a76284a7e3a95cdc9c5fca755efdfe0f73eb47ce6", func := "caulk/caulklaw10.SuperBack", spec := "superBack", unfollowed := true, recurses := true, named := ["caulk/crc.table"], apart := false, laid := [("caulk/crc.table", laid_caulk_crc_table)], narrowed := true }
def SuperBackUptoSaid : Prop := superBackUptoRow.holds Tryd.pinned (OpenSpec.upto superBackSpec)

/-- 'caulklaw09.PagesBuilds', WHERE WHAT IT READS IS OF BULK AT MOST 1048576: true; the input reads as it did. -/
def pagesBuildsUptoRow : OpenClaim := { program := "ytmmfplogkikbjaadoor", sum := "e379717825dc7de6e6d5256a76284a7e3a95cdc9c5fca755efdfe0f73eb47ce6", func := "caulk/caulklaw09.PagesBuilds", spec := "pagesBuilds", inPlace := ["internal/abi.NoEscape"], unfollowed := true, recurses := true, named := ["caulk/crc.table"], apart := false, laid := [("caulk/crc.table", laid_caulk_crc_table)], narrowed := true }
def PagesBuildsUptoSaid : Prop := pagesBuildsUptoRow.holds Tryd.pinned (OpenSpec.upto pagesBuildsSpec)

/-- 'caulklaw09.PagesBack', WHERE WHAT IT READS IS OF BULK AT MOST 1048576: true; the input reads as it did. -/
def pagesBackUptoRow : OpenClaim := { program := "ytmmfplogkikbjaadoor", sum := "e379717825dc7de6e6d5256a76284a7e3a95cdc9c5fca755efdfe0f73eb47ce6", func := "caulk/caulklaw09.PagesBack", spec := "pagesBack", inPlace := ["internal/abi.NoEscape"], unfollowed := true, recurses := true, named := ["caulk/crc.table"], apart := false, laid := [("caulk/crc.table", laid_caulk_crc_table)], narrowed := true }
def PagesBackUptoSaid : Prop := pagesBackUptoRow.holds Tryd.pinned (OpenSpec.upto pagesBackSpec)

/-- 'caulklaw10.SuperFinds', WHERE WHAT IT READS IS OF BULK AT MOST 1048576: true; the input reads as it did. -/
def superFindsUptoRow : OpenClaim := { program := "ytmmfplogkikbjaadoor", sum := "e379717825dc7de6e6d5256a76284a7e3a95cdc9c5fca755efdfe0f73eb47ce6", func := "caulk/caulklaw10.SuperFinds", spec := "superFinds", inPlace := ["internal/abi.NoEscape"], unfollowed := true, recurses := true, named := ["caulk/crc.table"], apart := false, laid := [("caulk/crc.table", laid_caulk_crc_table)], narrowed := true }
def SuperFindsUptoSaid : Prop := superFindsUptoRow.holds Tryd.pinned (OpenSpec.upto superFindsSpec)

end Rows
end Go.Proofs.YtmmfplogkikbjaaDoor
