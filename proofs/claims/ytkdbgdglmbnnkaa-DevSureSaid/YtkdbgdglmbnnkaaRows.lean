/-
  No cell of these rows narrows 'for every input' (looked for: loops, veiled, ifaces, maps, wideKeys, modest, calm, conditions, laid).
  DERIVED. THE GIVEN ROWS OF THIS SEAT. 6 by the template 'for every input the law returns true; each argument reads behind the call as it read before'; 0 by the template 'total and deterministic' (their statements: YtkdbgdglmbnnkaaTotals.lean).
  GIVEN WITH THE SEED: the statements are not yours to turn. If you find one false, say at which input.
  Laid BY PROGRAM, IN A SANDBOX (cutbox-rows.mjs): the forced cells as the released guide's own fill.sh prints them over the translation b86d8d16e459eb69… (all of the seat's roots in one cut). By AI agents, Wed Nov 11 2026. No macro, syntax, notation, axiom, sorry.
-/
import Derived.Test.YtkdbgdglmbnnkaaChecked
import GoSem.Claim
import GoSem.ClaimJoined
import GoSem.ClaimMapViews
import Derived.JoinedTies
import Derived.KernelRfl
namespace Go.Proofs.Ytkdbgdglmbnnkaa
/- THE CELL 'sum', in the pinned program and in every row, IS THE sha256 OF THE DUMP (.gsa) THAT YtkdbgdglmbnnkaaProg.lean LOADS. Nothing in Lean hashes anything: it is a label: what it is worth is what the hold of that sum in a sandbox is worth. -/
noncomputable def Try.pinned : Pinned := { name := "ytkdbgdglmbnnkaa", sum := "b86d8d16e459eb693ab17e272b3a40946999c725dbb82cfb4b6d156bb3635097", checked := Try.checked }
namespace Rows
def none {H : Type} : Left H := { results := [], args := [] }

/-- 'caulklaw05.DevSure': WHATEVER THE INPUT: true; the input reads as it did. -/
def devSureSpec : ChangeSpec := { name := "devSure", fn := fun _ => fun
  | [d1, d2, d3] => { results := [.lit (.bool true)], args := [d1, d2, d3] }
  | _ => none }
def devSureRow : OpenClaim := { program := "ytkdbgdglmbnnkaa", sum := "b86d8d16e459eb693ab17e272b3a40946999c725dbb82cfb4b6d156bb3635097", func := "caulk/caulklaw05.DevSure", spec := "devSure", inPlace := ["internal/abi.NoEscape"], unfollowed := true, recurses := true, plainKeys := false, apart := false }
def DevSureSaid : Prop := devSureRow.holds Try.pinned (OpenSpec.ofChange devSureSpec)

/-- ITS FALSE NEIGHBOUR: 'it returns false'. Refute it at one input. -/
def devSureWrong : ChangeSpec := { name := "devSure", fn := fun _ => fun
  | [d1, d2, d3] => { results := [.lit (.bool false)], args := [d1, d2, d3] }
  | _ => none }
def DevSureWrongFalsely : Prop := devSureRow.holds Try.pinned (OpenSpec.ofChange devSureWrong)

/-- 'caulklaw05.DevPlays': WHATEVER THE INPUT: true; the input reads as it did. -/
def devPlaysSpec : ChangeSpec := { name := "devPlays", fn := fun _ => fun
  | [d1, d2] => { results := [.lit (.bool true)], args := [d1, d2] }
  | _ => none }
def devPlaysRow : OpenClaim := { program := "ytkdbgdglmbnnkaa", sum := "b86d8d16e459eb693ab17e272b3a40946999c725dbb82cfb4b6d156bb3635097", func := "caulk/caulklaw05.DevPlays", spec := "devPlays", inPlace := ["internal/abi.NoEscape", "maps.clone"], unfollowed := true, recurses := true, plainKeys := false, apart := false }
def DevPlaysSaid : Prop := devPlaysRow.holds Try.pinned (OpenSpec.ofChange devPlaysSpec)

/-- ITS FALSE NEIGHBOUR: 'it returns false'. Refute it at one input. -/
def devPlaysWrong : ChangeSpec := { name := "devPlays", fn := fun _ => fun
  | [d1, d2] => { results := [.lit (.bool false)], args := [d1, d2] }
  | _ => none }
def DevPlaysWrongFalsely : Prop := devPlaysRow.holds Try.pinned (OpenSpec.ofChange devPlaysWrong)

/-- 'caulklaw05.DevLoads': WHATEVER THE INPUT: true; the input reads as it did. -/
def devLoadsSpec : ChangeSpec := { name := "devLoads", fn := fun _ => fun
  | [d1, d2, d3] => { results := [.lit (.bool true)], args := [d1, d2, d3] }
  | _ => none }
def devLoadsRow : OpenClaim := { program := "ytkdbgdglmbnnkaa", sum := "b86d8d16e459eb693ab17e272b3a40946999c725dbb82cfb4b6d156bb3635097", func := "caulk/caulklaw05.DevLoads", spec := "devLoads", inPlace := ["internal/abi.NoEscape", "maps.clone"], unfollowed := true, recurses := true, plainKeys := false, apart := false }
def DevLoadsSaid : Prop := devLoadsRow.holds Try.pinned (OpenSpec.ofChange devLoadsSpec)

/-- ITS FALSE NEIGHBOUR: 'it returns false'. Refute it at one input. -/
def devLoadsWrong : ChangeSpec := { name := "devLoads", fn := fun _ => fun
  | [d1, d2, d3] => { results := [.lit (.bool false)], args := [d1, d2, d3] }
  | _ => none }
def DevLoadsWrongFalsely : Prop := devLoadsRow.holds Try.pinned (OpenSpec.ofChange devLoadsWrong)

/-- 'caulklaw15.RefsCounts': WHATEVER THE INPUT: true; the input reads as it did. -/
def refsCountsSpec : ChangeSpec := { name := "refsCounts", fn := fun _ => fun
  | [d1, d2] => { results := [.lit (.bool true)], args := [d1, d2] }
  | _ => none }
def refsCountsRow : OpenClaim := { program := "ytkdbgdglmbnnkaa", sum := "b86d8d16e459eb693ab17e272b3a40946999c725dbb82cfb4b6d156bb3635097", func := "caulk/caulklaw15.RefsCounts", spec := "refsCounts", unfollowed := true, recurses := true, plainKeys := false, apart := false }
def RefsCountsSaid : Prop := refsCountsRow.holds Try.pinned (OpenSpec.ofChange refsCountsSpec)

/-- ITS FALSE NEIGHBOUR: 'it returns false'. Refute it at one input. -/
def refsCountsWrong : ChangeSpec := { name := "refsCounts", fn := fun _ => fun
  | [d1, d2] => { results := [.lit (.bool false)], args := [d1, d2] }
  | _ => none }
def RefsCountsWrongFalsely : Prop := refsCountsRow.holds Try.pinned (OpenSpec.ofChange refsCountsWrong)

/-- 'caulklaw15.RefsAsks': WHATEVER THE INPUT: true; the input reads as it did. -/
def refsAsksSpec : ChangeSpec := { name := "refsAsks", fn := fun _ => fun
  | [d1, d2, d3, d4] => { results := [.lit (.bool true)], args := [d1, d2, d3, d4] }
  | _ => none }
def refsAsksRow : OpenClaim := { program := "ytkdbgdglmbnnkaa", sum := "b86d8d16e459eb693ab17e272b3a40946999c725dbb82cfb4b6d156bb3635097", func := "caulk/caulklaw15.RefsAsks", spec := "refsAsks", unfollowed := true, recurses := true, plainKeys := false, apart := false }
def RefsAsksSaid : Prop := refsAsksRow.holds Try.pinned (OpenSpec.ofChange refsAsksSpec)

/-- ITS FALSE NEIGHBOUR: 'it returns false'. Refute it at one input. -/
def refsAsksWrong : ChangeSpec := { name := "refsAsks", fn := fun _ => fun
  | [d1, d2, d3, d4] => { results := [.lit (.bool false)], args := [d1, d2, d3, d4] }
  | _ => none }
def RefsAsksWrongFalsely : Prop := refsAsksRow.holds Try.pinned (OpenSpec.ofChange refsAsksWrong)

/-- 'caulklaw15.RefsAll': WHATEVER THE INPUT: true; the input reads as it did. -/
def refsAllSpec : ChangeSpec := { name := "refsAll", fn := fun _ => fun
  | [d1, d2, d3, d4] => { results := [.lit (.bool true)], args := [d1, d2, d3, d4] }
  | _ => none }
def refsAllRow : OpenClaim := { program := "ytkdbgdglmbnnkaa", sum := "b86d8d16e459eb693ab17e272b3a40946999c725dbb82cfb4b6d156bb3635097", func := "caulk/caulklaw15.RefsAll", spec := "refsAll", unfollowed := true, recurses := true, plainKeys := false, apart := false }
def RefsAllSaid : Prop := refsAllRow.holds Try.pinned (OpenSpec.ofChange refsAllSpec)

/-- ITS FALSE NEIGHBOUR: 'it returns false'. Refute it at one input. -/
def refsAllWrong : ChangeSpec := { name := "refsAll", fn := fun _ => fun
  | [d1, d2, d3, d4] => { results := [.lit (.bool false)], args := [d1, d2, d3, d4] }
  | _ => none }
def RefsAllWrongFalsely : Prop := refsAllRow.holds Try.pinned (OpenSpec.ofChange refsAllWrong)

/- THE SECOND FORM. 'bulk': how many values and letters a reading holds, each counted each time it is reached (what is shared counts as often as it is met; a slice's spare places count too). A statement '..UptoSaid' is the law's where the arguments, and the package variables that the reading takes, are together of bulk at most 1048576: NARROWER than '..Said'. Prove '..Said' where nothing that the law and all that it calls make is longer than what came in: it says more and counts as full. Else prove '..UptoSaid'. A law counts once. -/
mutual
def uptoBulk {H : Type} : DataW H → Nat
  | .lit (.string bytes) => bytes.length + 1
  | .lit _ => 1
  | .nil => 1
  | .ptr d => uptoBulk d + 1
  | .slice elems spare => uptoBulkAll elems + uptoBulkAll spare + 1
  | .agg parts => uptoBulkAll parts + 1
  | .iface _ d => uptoBulk d + 1
  | .map entries => uptoBulkEntries entries + 1
  | .held _ => 1
def uptoBulkAll {H : Type} : List (DataW H) → Nat
  | [] => 0
  | d :: r => uptoBulk d + uptoBulkAll r
def uptoBulkEntries {H : Type} : List (Lit × DataW H) → Nat
  | [] => 0
  | x :: r => uptoBulkEntry x + uptoBulkEntries r
def uptoBulkEntry {H : Type} : Lit × DataW H → Nat
  | (.string bytes, d) => bytes.length + uptoBulk d + 1
  | (_, d) => uptoBulk d + 1
 end
def uptoSmall : (H : Type) → List (DataW H) → Bool := fun _ ds => decide (uptoBulkAll ds ≤ 1048576)
def OpenSpec.upto (s : _root_.Go.ChangeSpec) : _root_.Go.OpenSpec := { _root_.Go.OpenSpec.ofChange s with cond := some uptoSmall }

/-- 'caulklaw05.DevSure', WHERE WHAT IT READS IS OF BULK AT MOST 1048576: true; the input reads as it did. -/
def devSureUptoRow : OpenClaim := { program := "ytkdbgdglmbnnkaa", sum := "b86d8d16e459eb693ab17e272b3a40946999c725dbb82cfb4b6d156bb3635097", func := "caulk/caulklaw05.DevSure", spec := "devSure", inPlace := ["internal/abi.NoEscape"], unfollowed := true, recurses := true, plainKeys := false, apart := false, narrowed := true }
def DevSureUptoSaid : Prop := devSureUptoRow.holds Try.pinned (OpenSpec.upto devSureSpec)

/-- 'caulklaw05.DevPlays', WHERE WHAT IT READS IS OF BULK AT MOST 1048576: true; the input reads as it did. -/
def devPlaysUptoRow : OpenClaim := { program := "ytkdbgdglmbnnkaa", sum := "b86d8d16e459eb693ab17e272b3a40946999c725dbb82cfb4b6d156bb3635097", func := "caulk/caulklaw05.DevPlays", spec := "devPlays", inPlace := ["internal/abi.NoEscape", "maps.clone"], unfollowed := true, recurses := true, plainKeys := false, apart := false, narrowed := true }
def DevPlaysUptoSaid : Prop := devPlaysUptoRow.holds Try.pinned (OpenSpec.upto devPlaysSpec)

/-- 'caulklaw05.DevLoads', WHERE WHAT IT READS IS OF BULK AT MOST 1048576: true; the input reads as it did. -/
def devLoadsUptoRow : OpenClaim := { program := "ytkdbgdglmbnnkaa", sum := "b86d8d16e459eb693ab17e272b3a40946999c725dbb82cfb4b6d156bb3635097", func := "caulk/caulklaw05.DevLoads", spec := "devLoads", inPlace := ["internal/abi.NoEscape", "maps.clone"], unfollowed := true, recurses := true, plainKeys := false, apart := false, narrowed := true }
def DevLoadsUptoSaid : Prop := devLoadsUptoRow.holds Try.pinned (OpenSpec.upto devLoadsSpec)

/-- 'caulklaw15.RefsCounts', WHERE WHAT IT READS IS OF BULK AT MOST 1048576: true; the input reads as it did. -/
def refsCountsUptoRow : OpenClaim := { program := "ytkdbgdglmbnnkaa", sum := "b86d8d16e459eb693ab17e272b3a40946999c725dbb82cfb4b6d156bb3635097", func := "caulk/caulklaw15.RefsCounts", spec := "refsCounts", unfollowed := true, recurses := true, plainKeys := false, apart := false, narrowed := true }
def RefsCountsUptoSaid : Prop := refsCountsUptoRow.holds Try.pinned (OpenSpec.upto refsCountsSpec)

/-- 'caulklaw15.RefsAsks', WHERE WHAT IT READS IS OF BULK AT MOST 1048576: true; the input reads as it did. -/
def refsAsksUptoRow : OpenClaim := { program := "ytkdbgdglmbnnkaa", sum := "b86d8d16e459eb693ab17e272b3a40946999c725dbb82cfb4b6d156bb3635097", func := "caulk/caulklaw15.RefsAsks", spec := "refsAsks", unfollowed := true, recurses := true, plainKeys := false, apart := false, narrowed := true }
def RefsAsksUptoSaid : Prop := refsAsksUptoRow.holds Try.pinned (OpenSpec.upto refsAsksSpec)

/-- 'caulklaw15.RefsAll', WHERE WHAT IT READS IS OF BULK AT MOST 1048576: true; the input reads as it did. -/
def refsAllUptoRow : OpenClaim := { program := "ytkdbgdglmbnnkaa", sum := "b86d8d16e459eb693ab17e272b3a40946999c725dbb82cfb4b6d156bb3635097", func := "caulk/caulklaw15.RefsAll", spec := "refsAll", unfollowed := true, recurses := true, plainKeys := false, apart := false, narrowed := true }
def RefsAllUptoSaid : Prop := refsAllUptoRow.holds Try.pinned (OpenSpec.upto refsAllSpec)

end Rows
end Go.Proofs.Ytkdbgdglmbnnkaa
