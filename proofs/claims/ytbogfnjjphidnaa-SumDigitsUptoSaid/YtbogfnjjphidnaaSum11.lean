/- The walks of the layer 'sum', its eleventh part: bytes of digits. Conditions: bytes that are made fit 2^47. -/
import Derived.Test.YtbogfnjjphidnaaSum10
import Derived.Test.YtbogfnjjphidnaaSumShelf
namespace Go.Proofs.Ytbogfnjjphidnaa
open Go.RowKit Go.Dol
set_option linter.unusedVariables false

theorem index_digV (x : Nat) (hx : x < 256) : Lib.indexByte [48, 49, 50, 51, 52, 53, 54, 55, 56, 57, 97, 98, 99, 100, 101, 102] (x : Int).toNat.toUInt8 = digV x := by
  have h : ∀ i : Fin 256, Lib.indexByte [48, 49, 50, 51, 52, 53, 54, 55, 56, 57, 97, 98, 99, 100, 101, 102] (i.val : Int).toNat.toUInt8 = digV i.val := by decide +kernel
  exact h ⟨x, hx⟩
theorem indexD_calls (x : Nat) (hx : x < 256) (w : World) :
    Calls Try.prog 19 #[.string ⟨#[48, 49, 50, 51, 52, 53, 54, 55, 56, 57, 97, 98, 99, 100, 101, 102]⟩, .int .u8 x] w fun e w' => e = .returned (.int .i64 (digV x)) ∧ w' = w := by
  refine (IndexByte_calls _ x w).mono ?_
  rintro e w' ⟨rfl, h⟩
  exact ⟨by rw [← index_digV x hx], h⟩
end Go.Proofs.Ytbogfnjjphidnaa
