/- The law DevPlays is walked whole: nothing plain is left to show. Conditions: none. -/
import Derived.Test.YtkdbgdglmbnnkaaGDQx9
namespace Go.Proofs.Ytkdbgdglmbnnkaa.Pure
open Go.RowKit Go.Proofs.Ytkdbgdglmbnnkaa.HDQ

theorem DevPlays : caulklaw05_DevPlays.Pure := trivial

end Go.Proofs.Ytkdbgdglmbnnkaa.Pure
