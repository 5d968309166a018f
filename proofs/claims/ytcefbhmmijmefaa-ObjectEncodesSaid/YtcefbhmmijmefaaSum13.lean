/- The walks of the layer 'sum', its thirteenth part: the document's turn of a word. Conditions: none beyond what each names. -/
import Derived.Test.YtcefbhmmijmefaaSum9
import Derived.Deep.QuietTactic
import Derived.BigQuiet
namespace Go.Proofs.Ytcefbhmmijmefaa
open Go.RowKit Go.Dol
set_option linter.unusedVariables false

set_option maxHeartbeats 400000 in
theorem turned_calls (x : Int) (k : Nat) (kk : Int) (w : World) (hk : kk = k) (hx0 : 0 ≤ x) (hx1 : x < 4294967296) (hk0 : 0 < k) (hk1 : k < 32) :
    Calls Try.prog 71 #[.int .u32 x, .int .i64 kk] w fun e w' => e = .returned (.int .u32 (rotl x k)) ∧ ∃ n, w' = w.drewN n := by
  subst hk
  have f1 : IntKind.i64.wrap (32 - (k : Int)) = 32 - (k : Int) := IntWalk.i64_in _ (by omega)
  have f2 : (0 : Int) ≤ 32 - (k : Int) := by omega
  have f3 : (32 - (k : Int)).toNat = 32 - k := by omega
  go_enter Try.func71, Try.ntmps71
  go_wp2_with fail
  go_quiet (fail)
  go_wp2_with fail
  go_ret
  exact ⟨rfl, nq, rfl⟩
end Go.Proofs.Ytcefbhmmijmefaa
