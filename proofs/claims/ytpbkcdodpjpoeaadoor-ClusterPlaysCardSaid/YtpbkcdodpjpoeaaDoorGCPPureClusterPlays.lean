/- The plain law ClusterPlays: nothing is left to show beside the walk. Conditions: none. -/
import Derived.Test.YtpbkcdodpjpoeaaDoorGCPx16
namespace Go.Proofs.YtpbkcdodpjpoeaaDoor.Pure
open Go.Proofs.YtpbkcdodpjpoeaaDoor.HCP
theorem ClusterPlays : caulklaw08_ClusterPlays.Pure := trivial
end Go.Proofs.YtpbkcdodpjpoeaaDoor.Pure
