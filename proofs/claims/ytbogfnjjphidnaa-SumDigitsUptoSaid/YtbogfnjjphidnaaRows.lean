/-
  No cell of these rows narrows 'for every input' (looked for: loops, veiled, ifaces, maps, wideKeys, modest, calm, conditions, laid).
  DERIVED. THE GIVEN ROWS OF THIS SEAT. 5 by the template 'for every input the law returns true; each argument reads behind the call as it read before'; 0 by the template 'total and deterministic' (their statements: YtbogfnjjphidnaaTotals.lean).
  GIVEN WITH THE SEED: the statements are not yours to turn. If you find one false, say at which input.
  Laid BY PROGRAM, IN A SANDBOX (cutbox-rows.mjs): the forced cells as the released guide's own fill.sh prints them over the translation 2a0cfa6a6440f433… (all of the seat's roots in one cut). By AI agents, Wed Nov 11 2026. No macro, syntax, notation, axiom, sorry.
-/
import Derived.Test.YtbogfnjjphidnaaChecked
import GoSem.Claim
import GoSem.ClaimJoined
import GoSem.ClaimMapViews
import Derived.JoinedTies
import Derived.KernelRfl
namespace Go.Proofs.Ytbogfnjjphidnaa
/- THE CELL 'sum', in the pinned program and in every row, IS THE sha256 OF THE DUMP (.gsa) THAT YtbogfnjjphidnaaProg.lean LOADS. Nothing in Lean hashes anything: it is a label: what it is worth is what the hold of that sum in a sandbox is worth. -/
noncomputable def Try.pinned : Pinned := { name := "ytbogfnjjphidnaa", sum := "2a0cfa6a6440f433dc8d067c02f24443aff40d460d3cc8a8aa5e5d15d221e5d2", checked := Try.checked }
namespace Rows
def none {H : Type} : Left H := { results := [], args := [] }

/-- 'dolmenlaw01.SumIs': WHATEVER THE INPUT: true; the input reads as it did. -/
def sumIsSpec : ChangeSpec := { name := "sumIs", fn := fun _ => fun
  | [d] => { results := [.lit (.bool true)], args := [d] }
  | _ => none }
def sumIsRow : OpenClaim := { program := "ytbogfnjjphidnaa", sum := "2a0cfa6a6440f433dc8d067c02f24443aff40d460d3cc8a8aa5e5d15d221e5d2", func := "dolmen/dolmenlaw01.SumIs", spec := "sumIs", inPlace := ["internal/bytealg.IndexByteString"], recurses := true, apart := false }
def SumIsSaid : Prop := sumIsRow.holds Try.pinned (OpenSpec.ofChange sumIsSpec)

/-- ITS FALSE NEIGHBOUR: 'it returns false'. Refute it at one input. -/
def sumIsWrong : ChangeSpec := { name := "sumIs", fn := fun _ => fun
  | [d] => { results := [.lit (.bool false)], args := [d] }
  | _ => none }
def SumIsWrongFalsely : Prop := sumIsRow.holds Try.pinned (OpenSpec.ofChange sumIsWrong)

/-- 'dolmenlaw01.SumHex': WHATEVER THE INPUT: true; the input reads as it did. -/
def sumHexSpec : ChangeSpec := { name := "sumHex", fn := fun _ => fun
  | [d1, d2] => { results := [.lit (.bool true)], args := [d1, d2] }
  | _ => none }
def sumHexRow : OpenClaim := { program := "ytbogfnjjphidnaa", sum := "2a0cfa6a6440f433dc8d067c02f24443aff40d460d3cc8a8aa5e5d15d221e5d2", func := "dolmen/dolmenlaw01.SumHex", spec := "sumHex", inPlace := ["internal/bytealg.IndexByteString"], recurses := true, apart := false }
def SumHexSaid : Prop := sumHexRow.holds Try.pinned (OpenSpec.ofChange sumHexSpec)

/-- ITS FALSE NEIGHBOUR: 'it returns false'. Refute it at one input. -/
def sumHexWrong : ChangeSpec := { name := "sumHex", fn := fun _ => fun
  | [d1, d2] => { results := [.lit (.bool false)], args := [d1, d2] }
  | _ => none }
def SumHexWrongFalsely : Prop := sumHexRow.holds Try.pinned (OpenSpec.ofChange sumHexWrong)

/-- 'dolmenlaw01.SumKeeps': WHATEVER THE INPUT: true; the input reads as it did. -/
def sumKeepsSpec : ChangeSpec := { name := "sumKeeps", fn := fun _ => fun
  | [d] => { results := [.lit (.bool true)], args := [d] }
  | _ => none }
def sumKeepsRow : OpenClaim := { program := "ytbogfnjjphidnaa", sum := "2a0cfa6a6440f433dc8d067c02f24443aff40d460d3cc8a8aa5e5d15d221e5d2", func := "dolmen/dolmenlaw01.SumKeeps", spec := "sumKeeps", inPlace := ["internal/bytealg.IndexByteString"], recurses := true, apart := false }
def SumKeepsSaid : Prop := sumKeepsRow.holds Try.pinned (OpenSpec.ofChange sumKeepsSpec)

/-- ITS FALSE NEIGHBOUR: 'it returns false'. Refute it at one input. -/
def sumKeepsWrong : ChangeSpec := { name := "sumKeeps", fn := fun _ => fun
  | [d] => { results := [.lit (.bool false)], args := [d] }
  | _ => none }
def SumKeepsWrongFalsely : Prop := sumKeepsRow.holds Try.pinned (OpenSpec.ofChange sumKeepsWrong)

/-- 'dolmenlaw01.SumTail': WHATEVER THE INPUT: true; the input reads as it did. -/
def sumTailSpec : ChangeSpec := { name := "sumTail", fn := fun _ => fun
  | [d1, d2] => { results := [.lit (.bool true)], args := [d1, d2] }
  | _ => none }
def sumTailRow : OpenClaim := { program := "ytbogfnjjphidnaa", sum := "2a0cfa6a6440f433dc8d067c02f24443aff40d460d3cc8a8aa5e5d15d221e5d2", func := "dolmen/dolmenlaw01.SumTail", spec := "sumTail", inPlace := ["internal/bytealg.IndexByteString"], recurses := true, apart := false }
def SumTailSaid : Prop := sumTailRow.holds Try.pinned (OpenSpec.ofChange sumTailSpec)

/-- ITS FALSE NEIGHBOUR: 'it returns false'. Refute it at one input. -/
def sumTailWrong : ChangeSpec := { name := "sumTail", fn := fun _ => fun
  | [d1, d2] => { results := [.lit (.bool false)], args := [d1, d2] }
  | _ => none }
def SumTailWrongFalsely : Prop := sumTailRow.holds Try.pinned (OpenSpec.ofChange sumTailWrong)

/-- 'dolmenlaw01.SumDigits': WHATEVER THE INPUT: true; the input reads as it did. -/
def sumDigitsSpec : ChangeSpec := { name := "sumDigits", fn := fun _ => fun
  | [d] => { results := [.lit (.bool true)], args := [d] }
  | _ => none }
def sumDigitsRow : OpenClaim := { program := "ytbogfnjjphidnaa", sum := "2a0cfa6a6440f433dc8d067c02f24443aff40d460d3cc8a8aa5e5d15d221e5d2", func := "dolmen/dolmenlaw01.SumDigits", spec := "sumDigits", inPlace := ["internal/bytealg.IndexByteString"], recurses := true, apart := false }
def SumDigitsSaid : Prop := sumDigitsRow.holds Try.pinned (OpenSpec.ofChange sumDigitsSpec)

/-- ITS FALSE NEIGHBOUR: 'it returns false'. Refute it at one input. -/
def sumDigitsWrong : ChangeSpec := { name := "sumDigits", fn := fun _ => fun
  | [d] => { results := [.lit (.bool false)], args := [d] }
  | _ => none }
def SumDigitsWrongFalsely : Prop := sumDigitsRow.holds Try.pinned (OpenSpec.ofChange sumDigitsWrong)

/- THE SECOND FORM. 'bulk': how many values and letters a reading holds, each counted each time it is reached (what is shared counts as often as it is met; a slice's spare places count too). A statement '..UptoSaid' is the law's where the arguments, and the package variables that the reading takes, are together of bulk at most 1048576: NARROWER than '..Said'. Prove '..Said' where nothing that the law and all that it calls make is longer than what came in: it says more and counts as full. Else prove '..UptoSaid'. A law counts once. -/
mutual
def uptoBulk {H : Type} : DataW H → Nat
  | .lit (.string bytes) => bytes.length + 1
  | .lit _ => 1
  | .nil => 1
  | .ptr d => uptoBulk d + 1
  | .slice elems spare => uptoBulkAll elems + uptoBulkAll spare + 1
  | .agg parts => uptoBulkAll parts + 1
  | .iface _ d => uptoBulk d + 1
  | .map entries => uptoBulkEntries entries + 1
  | .held _ => 1
def uptoBulkAll {H : Type} : List (DataW H) → Nat
  | [] => 0
  | d :: r => uptoBulk d + uptoBulkAll r
def uptoBulkEntries {H : Type} : List (Lit × DataW H) → Nat
  | [] => 0
  | x :: r => uptoBulkEntry x + uptoBulkEntries r
def uptoBulkEntry {H : Type} : Lit × DataW H → Nat
  | (.string bytes, d) => bytes.length + uptoBulk d + 1
  | (_, d) => uptoBulk d + 1
 end
def uptoSmall : (H : Type) → List (DataW H) → Bool := fun _ ds => decide (uptoBulkAll ds ≤ 1048576)
def OpenSpec.upto (s : _root_.Go.ChangeSpec) : _root_.Go.OpenSpec := { _root_.Go.OpenSpec.ofChange s with cond := some uptoSmall }

/-- 'dolmenlaw01.SumIs', WHERE WHAT IT READS IS OF BULK AT MOST 1048576: true; the input reads as it did. -/
def sumIsUptoRow : OpenClaim := { program := "ytbogfnjjphidnaa", sum := "2a0cfa6a6440f433dc8d067c02f24443aff40d460d3cc8a8aa5e5d15d221e5d2", func := "dolmen/dolmenlaw01.SumIs", spec := "sumIs", inPlace := ["internal/bytealg.IndexByteString"], recurses := true, apart := false, narrowed := true }
def SumIsUptoSaid : Prop := sumIsUptoRow.holds Try.pinned (OpenSpec.upto sumIsSpec)

/-- 'dolmenlaw01.SumHex', WHERE WHAT IT READS IS OF BULK AT MOST 1048576: true; the input reads as it did. -/
def sumHexUptoRow : OpenClaim := { program := "ytbogfnjjphidnaa", sum := "2a0cfa6a6440f433dc8d067c02f24443aff40d460d3cc8a8aa5e5d15d221e5d2", func := "dolmen/dolmenlaw01.SumHex", spec := "sumHex", inPlace := ["internal/bytealg.IndexByteString"], recurses := true, apart := false, narrowed := true }
def SumHexUptoSaid : Prop := sumHexUptoRow.holds Try.pinned (OpenSpec.upto sumHexSpec)

/-- 'dolmenlaw01.SumKeeps', WHERE WHAT IT READS IS OF BULK AT MOST 1048576: true; the input reads as it did. -/
def sumKeepsUptoRow : OpenClaim := { program := "ytbogfnjjphidnaa", sum := "2a0cfa6a6440f433dc8d067c02f24443aff40d460d3cc8a8aa5e5d15d221e5d2", func := "dolmen/dolmenlaw01.SumKeeps", spec := "sumKeeps", inPlace := ["internal/bytealg.IndexByteString"], recurses := true, apart := false, narrowed := true }
def SumKeepsUptoSaid : Prop := sumKeepsUptoRow.holds Try.pinned (OpenSpec.upto sumKeepsSpec)

/-- 'dolmenlaw01.SumTail', WHERE WHAT IT READS IS OF BULK AT MOST 1048576: true; the input reads as it did. -/
def sumTailUptoRow : OpenClaim := { program := "ytbogfnjjphidnaa", sum := "2a0cfa6a6440f433dc8d067c02f24443aff40d460d3cc8a8aa5e5d15d221e5d2", func := "dolmen/dolmenlaw01.SumTail", spec := "sumTail", inPlace := ["internal/bytealg.IndexByteString"], recurses := true, apart := false, narrowed := true }
def SumTailUptoSaid : Prop := sumTailUptoRow.holds Try.pinned (OpenSpec.upto sumTailSpec)

/-- 'dolmenlaw01.SumDigits', WHERE WHAT IT READS IS OF BULK AT MOST 1048576: true; the input reads as it did. -/
def sumDigitsUptoRow : OpenClaim := { program := "ytbogfnjjphidnaa", sum := "2a0cfa6a6440f433dc8d067c02f24443aff40d460d3cc8a8aa5e5d15d221e5d2", func := "dolmen/dolmenlaw01.SumDigits", spec := "sumDigits", inPlace := ["internal/bytealg.IndexByteString"], recurses := true, apart := false, narrowed := true }
def SumDigitsUptoSaid : Prop := sumDigitsUptoRow.holds Try.pinned (OpenSpec.upto sumDigitsSpec)

end Rows
end Go.Proofs.Ytbogfnjjphidnaa
