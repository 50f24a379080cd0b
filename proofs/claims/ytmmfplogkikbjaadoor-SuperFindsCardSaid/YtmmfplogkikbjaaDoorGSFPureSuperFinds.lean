/- The plain law SuperFinds: nothing is left to show beside the walk. Conditions: none. -/
import Derived.Test.YtmmfplogkikbjaaDoorGSFx21
namespace Go.Proofs.YtmmfplogkikbjaaDoor.Pure
open Go.Proofs.YtmmfplogkikbjaaDoor.HSF
theorem SuperFinds : caulklaw10_SuperFinds.Pure := trivial
end Go.Proofs.YtmmfplogkikbjaaDoor.Pure
