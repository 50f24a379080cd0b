/-
  No cell of these rows narrows 'for every input' (looked for: loops, veiled, ifaces, maps, wideKeys, modest, calm, conditions, laid).
  DERIVED. THE GIVEN ROWS OF THIS SEAT. 10 by the template 'for every input the law returns true; each argument reads behind the call as it read before'; 0 by the template 'total and deterministic' (their statements: YtgahpdoiddhdaaaTotals.lean).
  GIVEN WITH THE SEED: the statements are not yours to turn. If you find one false, say at which input.
  Laid BY PROGRAM, IN A SANDBOX (cutbox-rows.mjs): the forced cells as the released guide's own fill.sh prints them over the translation ed3ff6fcfe0e2c53… (all of the seat's roots in one cut). By AI agents, Wed Nov 11 2026. No macro, syntax, notation, axiom, sorry.
-/
import Derived.Test.YtgahpdoiddhdaaaChecked
import GoSem.Claim
import GoSem.ClaimJoined
import GoSem.ClaimMapViews
import Derived.JoinedTies
import Derived.KernelRfl
namespace Go.Proofs.Ytgahpdoiddhdaaa
/- THE CELL 'sum', in the pinned program and in every row, IS THE sha256 OF THE DUMP (.gsa) THAT YtgahpdoiddhdaaaProg.lean LOADS. Nothing in Lean hashes anything: it is a label: what it is worth is what the hold of that sum in a sandbox is worth. -/
noncomputable def Try.pinned : Pinned := { name := "ytgahpdoiddhdaaa", sum := "ed3ff6fcfe0e2c5331eb57c5d2382e25f72f96a9f3ca0f1146b61bcd3001eef0", checked := Try.checked }
namespace Rows
def none {H : Type} : Left H := { results := [], args := [] }

/-- 'caulklaw40.ElevatorTells': WHATEVER THE INPUT: true; the input reads as it did. -/
def elevatorTellsSpec : ChangeSpec := { name := "elevatorTells", fn := fun _ => fun
  | [d1, d2] => { results := [.lit (.bool true)], args := [d1, d2] }
  | _ => none }
def elevatorTellsRow : OpenClaim := { program := "ytgahpdoiddhdaaa", sum := "ed3ff6fcfe0e2c5331eb57c5d2382e25f72f96a9f3ca0f1146b61bcd3001eef0", func := "caulk/caulklaw40.ElevatorTells", spec := "elevatorTells", unfollowed := true, recurses := true, apart := false }
def ElevatorTellsSaid : Prop := elevatorTellsRow.holds Try.pinned (OpenSpec.ofChange elevatorTellsSpec)

/-- ITS FALSE NEIGHBOUR: 'it returns false'. Refute it at one input. -/
def elevatorTellsWrong : ChangeSpec := { name := "elevatorTells", fn := fun _ => fun
  | [d1, d2] => { results := [.lit (.bool false)], args := [d1, d2] }
  | _ => none }
def ElevatorTellsWrongFalsely : Prop := elevatorTellsRow.holds Try.pinned (OpenSpec.ofChange elevatorTellsWrong)

/-- 'caulklaw40.ElevatorOnce': WHATEVER THE INPUT: true; the input reads as it did. -/
def elevatorOnceSpec : ChangeSpec := { name := "elevatorOnce", fn := fun _ => fun
  | [d1, d2] => { results := [.lit (.bool true)], args := [d1, d2] }
  | _ => none }
def elevatorOnceRow : OpenClaim := { program := "ytgahpdoiddhdaaa", sum := "ed3ff6fcfe0e2c5331eb57c5d2382e25f72f96a9f3ca0f1146b61bcd3001eef0", func := "caulk/caulklaw40.ElevatorOnce", spec := "elevatorOnce", unfollowed := true, recurses := true, apart := false }
def ElevatorOnceSaid : Prop := elevatorOnceRow.holds Try.pinned (OpenSpec.ofChange elevatorOnceSpec)

/-- ITS FALSE NEIGHBOUR: 'it returns false'. Refute it at one input. -/
def elevatorOnceWrong : ChangeSpec := { name := "elevatorOnce", fn := fun _ => fun
  | [d1, d2] => { results := [.lit (.bool false)], args := [d1, d2] }
  | _ => none }
def ElevatorOnceWrongFalsely : Prop := elevatorOnceRow.holds Try.pinned (OpenSpec.ofChange elevatorOnceWrong)

/-- 'caulklaw40.ElevatorFar': WHATEVER THE INPUT: true; the input reads as it did. -/
def elevatorFarSpec : ChangeSpec := { name := "elevatorFar", fn := fun _ => fun
  | [d1, d2] => { results := [.lit (.bool true)], args := [d1, d2] }
  | _ => none }
def elevatorFarRow : OpenClaim := { program := "ytgahpdoiddhdaaa", sum := "ed3ff6fcfe0e2c5331eb57c5d2382e25f72f96a9f3ca0f1146b61bcd3001eef0", func := "caulk/caulklaw40.ElevatorFar", spec := "elevatorFar", unfollowed := true, recurses := true, apart := false }
def ElevatorFarSaid : Prop := elevatorFarRow.holds Try.pinned (OpenSpec.ofChange elevatorFarSpec)

/-- ITS FALSE NEIGHBOUR: 'it returns false'. Refute it at one input. -/
def elevatorFarWrong : ChangeSpec := { name := "elevatorFar", fn := fun _ => fun
  | [d1, d2] => { results := [.lit (.bool false)], args := [d1, d2] }
  | _ => none }
def ElevatorFarWrongFalsely : Prop := elevatorFarRow.holds Try.pinned (OpenSpec.ofChange elevatorFarWrong)

/-- 'caulklaw41.ThinTells': WHATEVER THE INPUT: true; the input reads as it did. -/
def thinTellsSpec : ChangeSpec := { name := "thinTells", fn := fun _ => fun
  | [d1, d2, d3, d4] => { results := [.lit (.bool true)], args := [d1, d2, d3, d4] }
  | _ => none }
def thinTellsRow : OpenClaim := { program := "ytgahpdoiddhdaaa", sum := "ed3ff6fcfe0e2c5331eb57c5d2382e25f72f96a9f3ca0f1146b61bcd3001eef0", func := "caulk/caulklaw41.ThinTells", spec := "thinTells", unfollowed := true, recurses := true, apart := false }
def ThinTellsSaid : Prop := thinTellsRow.holds Try.pinned (OpenSpec.ofChange thinTellsSpec)

/-- ITS FALSE NEIGHBOUR: 'it returns false'. Refute it at one input. -/
def thinTellsWrong : ChangeSpec := { name := "thinTells", fn := fun _ => fun
  | [d1, d2, d3, d4] => { results := [.lit (.bool false)], args := [d1, d2, d3, d4] }
  | _ => none }
def ThinTellsWrongFalsely : Prop := thinTellsRow.holds Try.pinned (OpenSpec.ofChange thinTellsWrong)

/-- 'caulklaw41.ThinRises': WHATEVER THE INPUT: true; the input reads as it did. -/
def thinRisesSpec : ChangeSpec := { name := "thinRises", fn := fun _ => fun
  | [d1, d2, d3, d4] => { results := [.lit (.bool true)], args := [d1, d2, d3, d4] }
  | _ => none }
def thinRisesRow : OpenClaim := { program := "ytgahpdoiddhdaaa", sum := "ed3ff6fcfe0e2c5331eb57c5d2382e25f72f96a9f3ca0f1146b61bcd3001eef0", func := "caulk/caulklaw41.ThinRises", spec := "thinRises", unfollowed := true, recurses := true, apart := false }
def ThinRisesSaid : Prop := thinRisesRow.holds Try.pinned (OpenSpec.ofChange thinRisesSpec)

/-- ITS FALSE NEIGHBOUR: 'it returns false'. Refute it at one input. -/
def thinRisesWrong : ChangeSpec := { name := "thinRises", fn := fun _ => fun
  | [d1, d2, d3, d4] => { results := [.lit (.bool false)], args := [d1, d2, d3, d4] }
  | _ => none }
def ThinRisesWrongFalsely : Prop := thinRisesRow.holds Try.pinned (OpenSpec.ofChange thinRisesWrong)

/-- 'caulklaw17.PoolAgain': WHATEVER THE INPUT: true; the input reads as it did. -/
def poolAgainSpec : ChangeSpec := { name := "poolAgain", fn := fun _ => fun
  | [d] => { results := [.lit (.bool true)], args := [d] }
  | _ => none }
def poolAgainRow : OpenClaim := { program := "ytgahpdoiddhdaaa", sum := "ed3ff6fcfe0e2c5331eb57c5d2382e25f72f96a9f3ca0f1146b61bcd3001eef0", func := "caulk/caulklaw17.PoolAgain", spec := "poolAgain", unfollowed := true, recurses := true, apart := false }
def PoolAgainSaid : Prop := poolAgainRow.holds Try.pinned (OpenSpec.ofChange poolAgainSpec)

/-- ITS FALSE NEIGHBOUR: 'it returns false'. Refute it at one input. -/
def poolAgainWrong : ChangeSpec := { name := "poolAgain", fn := fun _ => fun
  | [d] => { results := [.lit (.bool false)], args := [d] }
  | _ => none }
def PoolAgainWrongFalsely : Prop := poolAgainRow.holds Try.pinned (OpenSpec.ofChange poolAgainWrong)

/-- 'caulklaw17.PoolPlays': WHATEVER THE INPUT: true; the input reads as it did. -/
def poolPlaysSpec : ChangeSpec := { name := "poolPlays", fn := fun _ => fun
  | [d] => { results := [.lit (.bool true)], args := [d] }
  | _ => none }
def poolPlaysRow : OpenClaim := { program := "ytgahpdoiddhdaaa", sum := "ed3ff6fcfe0e2c5331eb57c5d2382e25f72f96a9f3ca0f1146b61bcd3001eef0", func := "caulk/caulklaw17.PoolPlays", spec := "poolPlays", inPlace := ["maps.clone"], unfollowed := true, recurses := true, apart := false }
def PoolPlaysSaid : Prop := poolPlaysRow.holds Try.pinned (OpenSpec.ofChange poolPlaysSpec)

/-- ITS FALSE NEIGHBOUR: 'it returns false'. Refute it at one input. -/
def poolPlaysWrong : ChangeSpec := { name := "poolPlays", fn := fun _ => fun
  | [d] => { results := [.lit (.bool false)], args := [d] }
  | _ => none }
def PoolPlaysWrongFalsely : Prop := poolPlaysRow.holds Try.pinned (OpenSpec.ofChange poolPlaysWrong)

/-- 'caulklaw39.BitmapTells': WHATEVER THE INPUT: true; the input reads as it did. -/
def bitmapTellsSpec : ChangeSpec := { name := "bitmapTells", fn := fun _ => fun
  | [d1, d2, d3, d4] => { results := [.lit (.bool true)], args := [d1, d2, d3, d4] }
  | _ => none }
def bitmapTellsRow : OpenClaim := { program := "ytgahpdoiddhdaaa", sum := "ed3ff6fcfe0e2c5331eb57c5d2382e25f72f96a9f3ca0f1146b61bcd3001eef0", func := "caulk/caulklaw39.BitmapTells", spec := "bitmapTells", unfollowed := true, recurses := true, apart := false }
def BitmapTellsSaid : Prop := bitmapTellsRow.holds Try.pinned (OpenSpec.ofChange bitmapTellsSpec)

/-- ITS FALSE NEIGHBOUR: 'it returns false'. Refute it at one input. -/
def bitmapTellsWrong : ChangeSpec := { name := "bitmapTells", fn := fun _ => fun
  | [d1, d2, d3, d4] => { results := [.lit (.bool false)], args := [d1, d2, d3, d4] }
  | _ => none }
def BitmapTellsWrongFalsely : Prop := bitmapTellsRow.holds Try.pinned (OpenSpec.ofChange bitmapTellsWrong)

/-- 'caulklaw39.BitmapBack': WHATEVER THE INPUT: true; the input reads as it did. -/
def bitmapBackSpec : ChangeSpec := { name := "bitmapBack", fn := fun _ => fun
  | [d1, d2, d3] => { results := [.lit (.bool true)], args := [d1, d2, d3] }
  | _ => none }
def bitmapBackRow : OpenClaim := { program := "ytgahpdoiddhdaaa", sum := "ed3ff6fcfe0e2c5331eb57c5d2382e25f72f96a9f3ca0f1146b61bcd3001eef0", func := "caulk/caulklaw39.BitmapBack", spec := "bitmapBack", unfollowed := true, recurses := true, apart := false }
def BitmapBackSaid : Prop := bitmapBackRow.holds Try.pinned (OpenSpec.ofChange bitmapBackSpec)

/-- ITS FALSE NEIGHBOUR: 'it returns false'. Refute it at one input. -/
def bitmapBackWrong : ChangeSpec := { name := "bitmapBack", fn := fun _ => fun
  | [d1, d2, d3] => { results := [.lit (.bool false)], args := [d1, d2, d3] }
  | _ => none }
def BitmapBackWrongFalsely : Prop := bitmapBackRow.holds Try.pinned (OpenSpec.ofChange bitmapBackWrong)

/-- 'caulklaw39.BitmapApart': WHATEVER THE INPUT: true; the input reads as it did. -/
def bitmapApartSpec : ChangeSpec := { name := "bitmapApart", fn := fun _ => fun
  | [d1, d2] => { results := [.lit (.bool true)], args := [d1, d2] }
  | _ => none }
def bitmapApartRow : OpenClaim := { program := "ytgahpdoiddhdaaa", sum := "ed3ff6fcfe0e2c5331eb57c5d2382e25f72f96a9f3ca0f1146b61bcd3001eef0", func := "caulk/caulklaw39.BitmapApart", spec := "bitmapApart", unfollowed := true, recurses := true, apart := false }
def BitmapApartSaid : Prop := bitmapApartRow.holds Try.pinned (OpenSpec.ofChange bitmapApartSpec)

/-- ITS FALSE NEIGHBOUR: 'it returns false'. Refute it at one input. -/
def bitmapApartWrong : ChangeSpec := { name := "bitmapApart", fn := fun _ => fun
  | [d1, d2] => { results := [.lit (.bool false)], args := [d1, d2] }
  | _ => none }
def BitmapApartWrongFalsely : Prop := bitmapApartRow.holds Try.pinned (OpenSpec.ofChange bitmapApartWrong)

/- THE SECOND FORM. 'bulk': how many values and letters a reading holds, each counted each time it is reached (what is shared counts as often as it is met; a slice's spare places count too). A statement '..UptoSaid' is the law's where the arguments, and the package variables that the reading takes, are together of bulk at most 1048576: NARROWER than '..Said'. Prove '..Said' where nothing that the law and all that it calls make is longer than what came in: it says more and counts as full. Else prove '..UptoSaid'. A law counts once. -/
mutual
def uptoBulk {H : Type} : DataW H → Nat
  | .lit (.string bytes) => bytes.length + 1
  | .lit _ => 1
  | .nil => 1
  | .ptr d => uptoBulk d + 1
  | .slice elems spare => uptoBulkAll elems + uptoBulkAll spare + 1
  | .agg parts => uptoBulkAll parts + 1
  | .iface _ d => uptoBulk d + 1
  | .map entries => uptoBulkEntries entries + 1
  | .held _ => 1
def uptoBulkAll {H : Type} : List (DataW H) → Nat
  | [] => 0
  | d :: r => uptoBulk d + uptoBulkAll r
def uptoBulkEntries {H : Type} : List (Lit × DataW H) → Nat
  | [] => 0
  | x :: r => uptoBulkEntry x + uptoBulkEntries r
def uptoBulkEntry {H : Type} : Lit × DataW H → Nat
  | (.string bytes, d) => bytes.length + uptoBulk d + 1
  | (_, d) => uptoBulk d + 1
 end
def uptoSmall : (H : Type) → List (DataW H) → Bool := fun _ ds => decide (uptoBulkAll ds ≤ 1048576)
def OpenSpec.upto (s : _root_.Go.ChangeSpec) : _root_.Go.OpenSpec := { _root_.Go.OpenSpec.ofChange s with cond := some uptoSmall }

/-- 'caulklaw40.ElevatorTells', WHERE WHAT IT READS IS OF BULK AT MOST 1048576: true; the input reads as it did. -/
def elevatorTellsUptoRow : OpenClaim := { program := "ytgahpdoiddhdaaa", sum := "ed3ff6fcfe0e2c5331eb57c5d2382e25f72f96a9f3ca0f1146b61bcd3001eef0", func := "caulk/caulklaw40.ElevatorTells", spec := "elevatorTells", unfollowed := true, recurses := true, apart := false, narrowed := true }
def ElevatorTellsUptoSaid : Prop := elevatorTellsUptoRow.holds Try.pinned (OpenSpec.upto elevatorTellsSpec)

/-- 'caulklaw40.ElevatorOnce', WHERE WHAT IT READS IS OF BULK AT MOST 1048576: true; the input reads as it did. -/
def elevatorOnceUptoRow : OpenClaim := { program := "ytgahpdoiddhdaaa", sum := "ed3ff6fcfe0e2c5331eb57c5d2382e25f72f96a9f3ca0f1146b61bcd3001eef0", func := "caulk/caulklaw40.ElevatorOnce", spec := "elevatorOnce", unfollowed := true, recurses := true, apart := false, narrowed := true }
def ElevatorOnceUptoSaid : Prop := elevatorOnceUptoRow.holds Try.pinned (OpenSpec.upto elevatorOnceSpec)

/-- 'caulklaw40.ElevatorFar', WHERE WHAT IT READS IS OF BULK AT MOST 1048576: true; the input reads as it did. -/
def elevatorFarUptoRow : OpenClaim := { program := "ytgahpdoiddhdaaa", sum := "ed3ff6fcfe0e2c5331eb57c5d2382e25f72f96a9f3ca0f1146b61bcd3001eef0", func := "caulk/caulklaw40.ElevatorFar", spec := "elevatorFar", unfollowed := true, recurses := true, apart := false, narrowed := true }
def ElevatorFarUptoSaid : Prop := elevatorFarUptoRow.holds Try.pinned (OpenSpec.upto elevatorFarSpec)

/-- 'caulklaw41.ThinTells', WHERE WHAT IT READS IS OF BULK AT MOST 1048576: true; the input reads as it did. -/
def thinTellsUptoRow : OpenClaim := { program := "ytgahpdoiddhdaaa", sum := "ed3ff6fcfe0e2c5331eb57c5d2382e25f72f96a9f3ca0f1146b61bcd3001eef0", func := "caulk/caulklaw41.ThinTells", spec := "thinTells", unfollowed := true, recurses := true, apart := false, narrowed := true }
def ThinTellsUptoSaid : Prop := thinTellsUptoRow.holds Try.pinned (OpenSpec.upto thinTellsSpec)

/-- 'caulklaw41.ThinRises', WHERE WHAT IT READS IS OF BULK AT MOST 1048576: true; the input reads as it did. -/
def thinRisesUptoRow : OpenClaim := { program := "ytgahpdoiddhdaaa", sum := "ed3ff6fcfe0e2c5331eb57c5d2382e25f72f96a9f3ca0f1146b61bcd3001eef0", func := "caulk/caulklaw41.ThinRises", spec := "thinRises", unfollowed := true, recurses := true, apart := false, narrowed := true }
def ThinRisesUptoSaid : Prop := thinRisesUptoRow.holds Try.pinned (OpenSpec.upto thinRisesSpec)

/-- 'caulklaw17.PoolAgain', WHERE WHAT IT READS IS OF BULK AT MOST 1048576: true; the input reads as it did. -/
def poolAgainUptoRow : OpenClaim := { program := "ytgahpdoiddhdaaa", sum := "ed3ff6fcfe0e2c5331eb57c5d2382e25f72f96a9f3ca0f1146b61bcd3001eef0", func := "caulk/caulklaw17.PoolAgain", spec := "poolAgain", unfollowed := true, recurses := true, apart := false, narrowed := true }
def PoolAgainUptoSaid : Prop := poolAgainUptoRow.holds Try.pinned (OpenSpec.upto poolAgainSpec)

/-- 'caulklaw17.PoolPlays', WHERE WHAT IT READS IS OF BULK AT MOST 1048576: true; the input reads as it did. -/
def poolPlaysUptoRow : OpenClaim := { program := "ytgahpdoiddhdaaa", sum := "ed3ff6fcfe0e2c5331eb57c5d2382e25f72f96a9f3ca0f1146b61bcd3001eef0", func := "caulk/caulklaw17.PoolPlays", spec := "poolPlays", inPlace := ["maps.clone"], unfollowed := true, recurses := true, apart := false, narrowed := true }
def PoolPlaysUptoSaid : Prop := poolPlaysUptoRow.holds Try.pinned (OpenSpec.upto poolPlaysSpec)

/-- 'caulklaw39.BitmapTells', WHERE WHAT IT READS IS OF BULK AT MOST 1048576: true; the input reads as it did. -/
def bitmapTellsUptoRow : OpenClaim := { program := "ytgahpdoiddhdaaa", sum := "ed3ff6fcfe0e2c5331eb57c5d2382e25f72f96a9f3ca0f1146b61bcd3001eef0", func := "caulk/caulklaw39.BitmapTells", spec := "bitmapTells", unfollowed := true, recurses := true, apart := false, narrowed := true }
def BitmapTellsUptoSaid : Prop := bitmapTellsUptoRow.holds Try.pinned (OpenSpec.upto bitmapTellsSpec)

/-- 'caulklaw39.BitmapBack', WHERE WHAT IT READS IS OF BULK AT MOST 1048576: true; the input reads as it did. -/
def bitmapBackUptoRow : OpenClaim := { program := "ytgahpdoiddhdaaa", sum := "ed3ff6fcfe0e2c5331eb57c5d2382e25f72f96a9f3ca0f1146b61bcd3001eef0", func := "caulk/caulklaw39.BitmapBack", spec := "bitmapBack", unfollowed := true, recurses := true, apart := false, narrowed := true }
def BitmapBackUptoSaid : Prop := bitmapBackUptoRow.holds Try.pinned (OpenSpec.upto bitmapBackSpec)

/-- 'caulklaw39.BitmapApart', WHERE WHAT IT READS IS OF BULK AT MOST 1048576: true; the input reads as it did. -/
def bitmapApartUptoRow : OpenClaim := { program := "ytgahpdoiddhdaaa", sum := "ed3ff6fcfe0e2c5331eb57c5d2382e25f72f96a9f3ca0f1146b61bcd3001eef0", func := "caulk/caulklaw39.BitmapApart", spec := "bitmapApart", unfollowed := true, recurses := true, apart := false, narrowed := true }
def BitmapApartUptoSaid : Prop := bitmapApartUptoRow.holds Try.pinned (OpenSpec.upto bitmapApartSpec)

end Rows
end Go.Proofs.Ytgahpdoiddhdaaa
