/- The law DevLoads is walked whole: nothing plain is left to show. Conditions: none. -/
import Derived.Test.YtkdbgdglmbnnkaaGDLx5
namespace Go.Proofs.Ytkdbgdglmbnnkaa.Pure
open Go.RowKit Go.Proofs.Ytkdbgdglmbnnkaa.HDL

theorem DevLoads : caulklaw05_DevLoads.Pure := trivial

end Go.Proofs.Ytkdbgdglmbnnkaa.Pure
