/- The plain law SuperBack: nothing is left to show beside the walk. Conditions: none. -/
import Derived.Test.YtmmfplogkikbjaaDoorGSKx17
namespace Go.Proofs.YtmmfplogkikbjaaDoor.Pure
open Go.Proofs.YtmmfplogkikbjaaDoor.HSK
theorem SuperBack : caulklaw10_SuperBack.Pure := trivial
end Go.Proofs.YtmmfplogkikbjaaDoor.Pure
