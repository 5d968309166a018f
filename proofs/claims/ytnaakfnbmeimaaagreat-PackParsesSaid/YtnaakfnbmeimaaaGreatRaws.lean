/- The walk of the law's raws: the bytes of objects that may be, and of rows of bytes. Conditions: at most 2^47 of each. -/
import Derived.Test.YtnaakfnbmeimaaaGreatObjD
import Derived.Test.YtnaakfnbmeimaaaGreatRwb
import Derived.Deep.DeepCutAuto
set_option linter.unusedVariables false
namespace Go.Dol
open Go.RowKit
end Go.Dol
namespace Go.Proofs.YtnaakfnbmeimaaaGreat
open Go.RowKit Go.Dol
end Go.Proofs.YtnaakfnbmeimaaaGreat
