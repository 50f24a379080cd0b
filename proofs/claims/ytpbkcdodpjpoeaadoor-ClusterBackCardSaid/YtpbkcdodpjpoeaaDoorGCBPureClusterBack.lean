/- The law ClusterBack is walked whole: nothing plain is left to show. Condition: the table as it was laid. -/
import Derived.Test.YtpbkcdodpjpoeaaDoorGCBx5
namespace Go.Proofs.YtpbkcdodpjpoeaaDoor.Pure
open Go.RowKit Go.Proofs.YtpbkcdodpjpoeaaDoor.HCB

theorem ClusterBack : caulklaw08_ClusterBack.Pure := trivial

end Go.Proofs.YtpbkcdodpjpoeaaDoor.Pure
