/- WRITTEN BY wip/hyb.py, a program of this workplace (out of the kit's printer and this workplace's own contracts). -/
import Derived.Laws.Bits64b
import Derived.Laws.CopyOwn
import Derived.Lib.Builder
import Derived.Lib.OwnBridge
import Derived.Sort.LoopGhostIn
import Derived.Sort.OwnSortedInts
import Derived.Sort.QuietIn
import Derived.StillTailTactics
import Derived.Stop.RegionWithIn
import Derived.Test.YtkdbgdglmbnnkaaGDLK
namespace Go.Proofs.Ytkdbgdglmbnnkaa.HDL
open Go.RowKit Go.Proofs.YtkdbgdglmbnnkaaW.PrintWords Go.Proofs.YtkdbgdglmbnnkaaW.PrintLast Go.Proofs.YtkdbgdglmbnnkaaW.PrintMore
attribute [local go_sem] max2_int min2_int max_two min_two max_three min_three max_four min_four   -- for this text's walks alone
set_option linter.unusedVariables false
set_option linter.unusedSimpArgs false



def errW : Option Int → Value
 | none => .nilIface
 | some c => .iface 0 (.int .i64 c)
theorem errW_none : errW none = .nilIface := rfl
theorem errW_some (c : Int) : errW (some c) = .iface 0 (.int .i64 c) := rfl

theorem info3 : (Try.prog.info? 3).map (fun i => (i.zero, i.size, i.bytes)) = some (some (.int .i64 0), 1, 8) := by kernel_rfl
theorem info5 : (Try.prog.info? 5).map (fun i => (i.zero, i.size, i.bytes)) = some (some (.int .u8 0), 1, 1) := by kernel_rfl

end Go.Proofs.Ytkdbgdglmbnnkaa.HDL
