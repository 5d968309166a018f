/- The walk of the document's Parse. Conditions: bytes of at most 2^47 - 4096. -/
import Derived.Test.YtnaakfnbmeimaaaGreatRPk2
import Derived.Test.YtnaakfnbmeimaaaGreatPckPart
import Derived.Test.YtnaakfnbmeimaaaGreatObjE
import Derived.Test.YtnaakfnbmeimaaaGreatSumB
import Derived.Deep.DeepCutAuto
set_option linter.unusedVariables false
namespace Go.Proofs.YtnaakfnbmeimaaaGreat
open Go.RowKit Go.Dol
theorem info_rpt : (Tryz.prog.info? 88).map (fun i => (i.zero,i.size,i.bytes)) = some (some (.agg #[.string ⟨#[]⟩,.int .i64 0,.int .i64 0,.int .i64 0,.slice none 0 0]),5,64):=by kernel_rfl
end Go.Proofs.YtnaakfnbmeimaaaGreat
