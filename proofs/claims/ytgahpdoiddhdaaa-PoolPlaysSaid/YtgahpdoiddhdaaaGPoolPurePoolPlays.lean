/- The law PoolPlays is walked whole: nothing plain is left to show. Conditions: none. -/
import Derived.Test.YtgahpdoiddhdaaaGPoolx5
namespace Go.Proofs.Ytgahpdoiddhdaaa.Pure
open Go.RowKit Go.Proofs.Ytgahpdoiddhdaaa.HPool

theorem PoolPlays : caulklaw17_PoolPlays.Pure := trivial

end Go.Proofs.Ytgahpdoiddhdaaa.Pure
