/- The law DevSure is walked whole: nothing plain is left to show. Conditions: none. -/
import Derived.Test.YtkdbgdglmbnnkaaGDRx9
namespace Go.Proofs.Ytkdbgdglmbnnkaa.Pure
open Go.RowKit Go.Proofs.Ytkdbgdglmbnnkaa.HDR

theorem DevSure : caulklaw05_DevSure.Pure := trivial

end Go.Proofs.Ytkdbgdglmbnnkaa.Pure
