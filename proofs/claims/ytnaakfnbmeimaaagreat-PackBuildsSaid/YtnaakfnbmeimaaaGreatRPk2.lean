/- The walk of the document's open: the bytes of an object that is kept behind others. Conditions: bytes of at most 2^47 - 4096. -/
import Derived.Test.YtnaakfnbmeimaaaGreatRPk1
import Derived.Test.YtnaakfnbmeimaaaGreatRefOwn
import Derived.Test.YtnaakfnbmeimaaaGreatPckOpen
import Derived.Test.YtnaakfnbmeimaaaGreatPackRead
import Derived.BigQuiet
set_option linter.unusedVariables false
namespace Go.Proofs.YtnaakfnbmeimaaaGreat
open Go.RowKit Go.Dol
end Go.Proofs.YtnaakfnbmeimaaaGreat
