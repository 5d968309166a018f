/- How the arguments of a statement of this seat read: a slice of bytes as a list of bytes, and what the form's reach and the second form's bound say of its length. Conditions: none. -/
import Derived.Test.YtecpbcmpncgokaaGreatRows
import Derived.Test.YtecpbcmpncgokaaGreatWordsA
import Derived.ProofKit
import Derived.OpenShut
import Derived.ShutString
import Derived.ChangeOld
import Derived.JoinedCond
import Derived.Deep.CondSized
namespace Go.Proofs.YtecpbcmpncgokaaGreat
open Go.ChangeShapes Go.WideShapes Go.ChangeAt Go.RowKit Go.Dol
open Go.ChangeMaps (open_string shut_string)

theorem Zfz : ownKnob Tryz.prog.godebug = none := by kernel_rfl
theorem ZfA : laidOutB Tryz.prog = true := by kernel_rfl

end Go.Proofs.YtecpbcmpncgokaaGreat
