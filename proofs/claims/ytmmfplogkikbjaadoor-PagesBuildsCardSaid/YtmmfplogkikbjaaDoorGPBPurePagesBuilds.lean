/- The plain law PagesBuilds: nothing is left to show beside the walk. Conditions: none. -/
import Derived.Test.YtmmfplogkikbjaaDoorGPBx22
namespace Go.Proofs.YtmmfplogkikbjaaDoor.Pure
open Go.Proofs.YtmmfplogkikbjaaDoor.HPB
theorem PagesBuilds : caulklaw09_PagesBuilds.Pure := trivial
end Go.Proofs.YtmmfplogkikbjaaDoor.Pure
