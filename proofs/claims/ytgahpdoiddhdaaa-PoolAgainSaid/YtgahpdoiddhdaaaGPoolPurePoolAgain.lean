/- The law PoolAgain is walked whole: nothing plain is left to show. Conditions: none. -/
import Derived.Test.YtgahpdoiddhdaaaGPoolx2
namespace Go.Proofs.Ytgahpdoiddhdaaa.Pure
open Go.RowKit Go.Proofs.Ytgahpdoiddhdaaa.HPool

theorem PoolAgain : caulklaw17_PoolAgain.Pure := trivial

end Go.Proofs.Ytgahpdoiddhdaaa.Pure
