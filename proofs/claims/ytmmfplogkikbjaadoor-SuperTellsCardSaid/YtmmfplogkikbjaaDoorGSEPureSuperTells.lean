/- The plain law SuperTells: nothing is left to show beside the walk. Conditions: none. -/
import Derived.Test.YtmmfplogkikbjaaDoorGSEx16
namespace Go.Proofs.YtmmfplogkikbjaaDoor.Pure
open Go.Proofs.YtmmfplogkikbjaaDoor.HSE
theorem SuperTells : caulklaw10_SuperTells.Pure := trivial
end Go.Proofs.YtmmfplogkikbjaaDoor.Pure
