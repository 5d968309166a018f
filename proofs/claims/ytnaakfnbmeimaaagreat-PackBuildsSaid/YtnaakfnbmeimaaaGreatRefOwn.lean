/- The document's Open and Apply: what they hand back lies in a row of its own. Conditions: as each law names. -/
import Derived.Test.YtnaakfnbmeimaaaGreatPressA
import Derived.Test.YtnaakfnbmeimaaaGreatDeltaA
import Derived.Deep.RegionHeld3
set_option linter.unusedVariables false
namespace Go.Proofs.YtnaakfnbmeimaaaGreat
open Go.RowKit Go.Dol
end Go.Proofs.YtnaakfnbmeimaaaGreat
