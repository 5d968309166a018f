/- Plain laws of the layer 'pack': an object's bytes are short; small changes are small; parts' depths and ids. No program is in sight. Conditions: none. -/
import Derived.Test.YtnaakfnbmeimaaaGreatPackSpec
set_option linter.unusedVariables false
namespace Go.Dol
end Go.Dol
