/-
  No cell of these rows narrows 'for every input' (looked for: loops, veiled, ifaces, maps, wideKeys, modest, calm, conditions, laid).
  DERIVED. THE GIVEN ROWS OF THIS SEAT. 9 by the template 'for every input the law returns true; each argument reads behind the call as it read before'; 0 by the template 'total and deterministic' (their statements: YtpkfkippbanagaaTotals.lean).
  GIVEN WITH THE SEED: the statements are not yours to turn. If you find one false, say at which input.
  Laid BY PROGRAM, IN A SANDBOX (cutbox-rows.mjs): the forced cells as the released guide's own fill.sh prints them over the translation f4da0b89b4f82b05… (all of the seat's roots in one cut). By AI agents, Wed Nov 11 2026. No macro, syntax, notation, axiom, sorry.
-/
import Derived.Test.YtpkfkippbanagaaChecked
import GoSem.Claim
import GoSem.ClaimJoined
import GoSem.ClaimMapViews
import Derived.JoinedTies
import Derived.KernelRfl
namespace Go.Proofs.Ytpkfkippbanagaa
/- THE CELL 'sum', in the pinned program and in every row, IS THE sha256 OF THE DUMP (.gsa) THAT YtpkfkippbanagaaProg.lean LOADS. Nothing in Lean hashes anything: it is a label: what it is worth is what the hold of that sum in a sandbox is worth. -/
noncomputable def Try.pinned : Pinned := { name := "ytpkfkippbanagaa", sum := "f4da0b89b4f82b057380d48b4593d18d09fac0c4a18de8db68c9a872482875da", checked := Try.checked }
namespace Rows
def none {H : Type} : Left H := { results := [], args := [] }

/-- 'dolmenlaw02.CodePuts': WHATEVER THE INPUT: true; the input reads as it did. -/
def codePutsSpec : ChangeSpec := { name := "codePuts", fn := fun _ => fun
  | [d1, d2, d3] => { results := [.lit (.bool true)], args := [d1, d2, d3] }
  | _ => none }
def codePutsRow : OpenClaim := { program := "ytpkfkippbanagaa", sum := "f4da0b89b4f82b057380d48b4593d18d09fac0c4a18de8db68c9a872482875da", func := "dolmen/dolmenlaw02.CodePuts", spec := "codePuts", plainKeys := false, apart := false }
def CodePutsSaid : Prop := codePutsRow.holds Try.pinned (OpenSpec.ofChange codePutsSpec)

/-- ITS FALSE NEIGHBOUR: 'it returns false'. Refute it at one input. -/
def codePutsWrong : ChangeSpec := { name := "codePuts", fn := fun _ => fun
  | [d1, d2, d3] => { results := [.lit (.bool false)], args := [d1, d2, d3] }
  | _ => none }
def CodePutsWrongFalsely : Prop := codePutsRow.holds Try.pinned (OpenSpec.ofChange codePutsWrong)

/-- 'dolmenlaw02.CodeTakes': WHATEVER THE INPUT: true; the input reads as it did. -/
def codeTakesSpec : ChangeSpec := { name := "codeTakes", fn := fun _ => fun
  | [d1, d2] => { results := [.lit (.bool true)], args := [d1, d2] }
  | _ => none }
def codeTakesRow : OpenClaim := { program := "ytpkfkippbanagaa", sum := "f4da0b89b4f82b057380d48b4593d18d09fac0c4a18de8db68c9a872482875da", func := "dolmen/dolmenlaw02.CodeTakes", spec := "codeTakes", plainKeys := false, apart := false }
def CodeTakesSaid : Prop := codeTakesRow.holds Try.pinned (OpenSpec.ofChange codeTakesSpec)

/-- ITS FALSE NEIGHBOUR: 'it returns false'. Refute it at one input. -/
def codeTakesWrong : ChangeSpec := { name := "codeTakes", fn := fun _ => fun
  | [d1, d2] => { results := [.lit (.bool false)], args := [d1, d2] }
  | _ => none }
def CodeTakesWrongFalsely : Prop := codeTakesRow.holds Try.pinned (OpenSpec.ofChange codeTakesWrong)

/-- 'dolmenlaw08.DeltaEncodes': WHATEVER THE INPUT: true; the input reads as it did. -/
def deltaEncodesSpec : ChangeSpec := { name := "deltaEncodes", fn := fun _ => fun
  | [d1, d2] => { results := [.lit (.bool true)], args := [d1, d2] }
  | _ => none }
def deltaEncodesRow : OpenClaim := { program := "ytpkfkippbanagaa", sum := "f4da0b89b4f82b057380d48b4593d18d09fac0c4a18de8db68c9a872482875da", func := "dolmen/dolmenlaw08.DeltaEncodes", spec := "deltaEncodes", plainKeys := false, apart := false }
def DeltaEncodesSaid : Prop := deltaEncodesRow.holds Try.pinned (OpenSpec.ofChange deltaEncodesSpec)

/-- ITS FALSE NEIGHBOUR: 'it returns false'. Refute it at one input. -/
def deltaEncodesWrong : ChangeSpec := { name := "deltaEncodes", fn := fun _ => fun
  | [d1, d2] => { results := [.lit (.bool false)], args := [d1, d2] }
  | _ => none }
def DeltaEncodesWrongFalsely : Prop := deltaEncodesRow.holds Try.pinned (OpenSpec.ofChange deltaEncodesWrong)

/-- 'dolmenlaw08.DeltaApplies': WHATEVER THE INPUT: true; the input reads as it did. -/
def deltaAppliesSpec : ChangeSpec := { name := "deltaApplies", fn := fun _ => fun
  | [d1, d2, d3] => { results := [.lit (.bool true)], args := [d1, d2, d3] }
  | _ => none }
def deltaAppliesRow : OpenClaim := { program := "ytpkfkippbanagaa", sum := "f4da0b89b4f82b057380d48b4593d18d09fac0c4a18de8db68c9a872482875da", func := "dolmen/dolmenlaw08.DeltaApplies", spec := "deltaApplies", plainKeys := false, apart := false }
def DeltaAppliesSaid : Prop := deltaAppliesRow.holds Try.pinned (OpenSpec.ofChange deltaAppliesSpec)

/-- ITS FALSE NEIGHBOUR: 'it returns false'. Refute it at one input. -/
def deltaAppliesWrong : ChangeSpec := { name := "deltaApplies", fn := fun _ => fun
  | [d1, d2, d3] => { results := [.lit (.bool false)], args := [d1, d2, d3] }
  | _ => none }
def DeltaAppliesWrongFalsely : Prop := deltaAppliesRow.holds Try.pinned (OpenSpec.ofChange deltaAppliesWrong)

/-- 'dolmenlaw08.DeltaBack': WHATEVER THE INPUT: true; the input reads as it did. -/
def deltaBackSpec : ChangeSpec := { name := "deltaBack", fn := fun _ => fun
  | [d1, d2, d3] => { results := [.lit (.bool true)], args := [d1, d2, d3] }
  | _ => none }
def deltaBackRow : OpenClaim := { program := "ytpkfkippbanagaa", sum := "f4da0b89b4f82b057380d48b4593d18d09fac0c4a18de8db68c9a872482875da", func := "dolmen/dolmenlaw08.DeltaBack", spec := "deltaBack", plainKeys := false, apart := false }
def DeltaBackSaid : Prop := deltaBackRow.holds Try.pinned (OpenSpec.ofChange deltaBackSpec)

/-- ITS FALSE NEIGHBOUR: 'it returns false'. Refute it at one input. -/
def deltaBackWrong : ChangeSpec := { name := "deltaBack", fn := fun _ => fun
  | [d1, d2, d3] => { results := [.lit (.bool false)], args := [d1, d2, d3] }
  | _ => none }
def DeltaBackWrongFalsely : Prop := deltaBackRow.holds Try.pinned (OpenSpec.ofChange deltaBackWrong)

/-- 'dolmenlaw08.DeltaRun': WHATEVER THE INPUT: true; the input reads as it did. -/
def deltaRunSpec : ChangeSpec := { name := "deltaRun", fn := fun _ => fun
  | [d1, d2, d3, d4] => { results := [.lit (.bool true)], args := [d1, d2, d3, d4] }
  | _ => none }
def deltaRunRow : OpenClaim := { program := "ytpkfkippbanagaa", sum := "f4da0b89b4f82b057380d48b4593d18d09fac0c4a18de8db68c9a872482875da", func := "dolmen/dolmenlaw08.DeltaRun", spec := "deltaRun", plainKeys := false, apart := false }
def DeltaRunSaid : Prop := deltaRunRow.holds Try.pinned (OpenSpec.ofChange deltaRunSpec)

/-- ITS FALSE NEIGHBOUR: 'it returns false'. Refute it at one input. -/
def deltaRunWrong : ChangeSpec := { name := "deltaRun", fn := fun _ => fun
  | [d1, d2, d3, d4] => { results := [.lit (.bool false)], args := [d1, d2, d3, d4] }
  | _ => none }
def DeltaRunWrongFalsely : Prop := deltaRunRow.holds Try.pinned (OpenSpec.ofChange deltaRunWrong)

/-- 'dolmenlaw08.DeltaCut': WHATEVER THE INPUT: true; the input reads as it did. -/
def deltaCutSpec : ChangeSpec := { name := "deltaCut", fn := fun _ => fun
  | [d1, d2, d3, d4] => { results := [.lit (.bool true)], args := [d1, d2, d3, d4] }
  | _ => none }
def deltaCutRow : OpenClaim := { program := "ytpkfkippbanagaa", sum := "f4da0b89b4f82b057380d48b4593d18d09fac0c4a18de8db68c9a872482875da", func := "dolmen/dolmenlaw08.DeltaCut", spec := "deltaCut", plainKeys := false, apart := false }
def DeltaCutSaid : Prop := deltaCutRow.holds Try.pinned (OpenSpec.ofChange deltaCutSpec)

/-- ITS FALSE NEIGHBOUR: 'it returns false'. Refute it at one input. -/
def deltaCutWrong : ChangeSpec := { name := "deltaCut", fn := fun _ => fun
  | [d1, d2, d3, d4] => { results := [.lit (.bool false)], args := [d1, d2, d3, d4] }
  | _ => none }
def DeltaCutWrongFalsely : Prop := deltaCutRow.holds Try.pinned (OpenSpec.ofChange deltaCutWrong)

/-- 'dolmenlaw08.DeltaMoves': WHATEVER THE INPUT: true; the input reads as it did. -/
def deltaMovesSpec : ChangeSpec := { name := "deltaMoves", fn := fun _ => fun
  | [d1, d2] => { results := [.lit (.bool true)], args := [d1, d2] }
  | _ => none }
def deltaMovesRow : OpenClaim := { program := "ytpkfkippbanagaa", sum := "f4da0b89b4f82b057380d48b4593d18d09fac0c4a18de8db68c9a872482875da", func := "dolmen/dolmenlaw08.DeltaMoves", spec := "deltaMoves", plainKeys := false, apart := false }
def DeltaMovesSaid : Prop := deltaMovesRow.holds Try.pinned (OpenSpec.ofChange deltaMovesSpec)

/-- ITS FALSE NEIGHBOUR: 'it returns false'. Refute it at one input. -/
def deltaMovesWrong : ChangeSpec := { name := "deltaMoves", fn := fun _ => fun
  | [d1, d2] => { results := [.lit (.bool false)], args := [d1, d2] }
  | _ => none }
def DeltaMovesWrongFalsely : Prop := deltaMovesRow.holds Try.pinned (OpenSpec.ofChange deltaMovesWrong)

/-- 'dolmenlaw08.DeltaMost': WHATEVER THE INPUT: true; the input reads as it did. -/
def deltaMostSpec : ChangeSpec := { name := "deltaMost", fn := fun _ => fun
  | [d1, d2, d3] => { results := [.lit (.bool true)], args := [d1, d2, d3] }
  | _ => none }
def deltaMostRow : OpenClaim := { program := "ytpkfkippbanagaa", sum := "f4da0b89b4f82b057380d48b4593d18d09fac0c4a18de8db68c9a872482875da", func := "dolmen/dolmenlaw08.DeltaMost", spec := "deltaMost", plainKeys := false, apart := false }
def DeltaMostSaid : Prop := deltaMostRow.holds Try.pinned (OpenSpec.ofChange deltaMostSpec)

/-- ITS FALSE NEIGHBOUR: 'it returns false'. Refute it at one input. -/
def deltaMostWrong : ChangeSpec := { name := "deltaMost", fn := fun _ => fun
  | [d1, d2, d3] => { results := [.lit (.bool false)], args := [d1, d2, d3] }
  | _ => none }
def DeltaMostWrongFalsely : Prop := deltaMostRow.holds Try.pinned (OpenSpec.ofChange deltaMostWrong)

/- THE SECOND FORM. 'bulk': how many values and letters a reading holds, each counted each time it is reached (what is shared counts as often as it is met; a slice's spare places count too). A statement '..UptoSaid' is the law's where the arguments, and the package variables that the reading takes, are together of bulk at most 1048576: NARROWER than '..Said'. Prove '..Said' where nothing that the law and all that it calls make is longer than what came in: it says more and counts as full. Else prove '..UptoSaid'. A law counts once. -/
mutual
def uptoBulk {H : Type} : DataW H → Nat
  | .lit (.string bytes) => bytes.length + 1
  | .lit _ => 1
  | .nil => 1
  | .ptr d => uptoBulk d + 1
  | .slice elems spare => uptoBulkAll elems + uptoBulkAll spare + 1
  | .agg parts => uptoBulkAll parts + 1
  | .iface _ d => uptoBulk d + 1
  | .map entries => uptoBulkEntries entries + 1
  | .held _ => 1
def uptoBulkAll {H : Type} : List (DataW H) → Nat
  | [] => 0
  | d :: r => uptoBulk d + uptoBulkAll r
def uptoBulkEntries {H : Type} : List (Lit × DataW H) → Nat
  | [] => 0
  | x :: r => uptoBulkEntry x + uptoBulkEntries r
def uptoBulkEntry {H : Type} : Lit × DataW H → Nat
  | (.string bytes, d) => bytes.length + uptoBulk d + 1
  | (_, d) => uptoBulk d + 1
 end
def uptoSmall : (H : Type) → List (DataW H) → Bool := fun _ ds => decide (uptoBulkAll ds ≤ 1048576)
def OpenSpec.upto (s : _root_.Go.ChangeSpec) : _root_.Go.OpenSpec := { _root_.Go.OpenSpec.ofChange s with cond := some uptoSmall }

/-- 'dolmenlaw02.CodePuts', WHERE WHAT IT READS IS OF BULK AT MOST 1048576: true; the input reads as it did. -/
def codePutsUptoRow : OpenClaim := { program := "ytpkfkippbanagaa", sum := "f4da0b89b4f82b057380d48b4593d18d09fac0c4a18de8db68c9a872482875da", func := "dolmen/dolmenlaw02.CodePuts", spec := "codePuts", plainKeys := false, apart := false, narrowed := true }
def CodePutsUptoSaid : Prop := codePutsUptoRow.holds Try.pinned (OpenSpec.upto codePutsSpec)

/-- 'dolmenlaw02.CodeTakes', WHERE WHAT IT READS IS OF BULK AT MOST 1048576: true; the input reads as it did. -/
def codeTakesUptoRow : OpenClaim := { program := "ytpkfkippbanagaa", sum := "f4da0b89b4f82b057380d48b4593d18d09fac0c4a18de8db68c9a872482875da", func := "dolmen/dolmenlaw02.CodeTakes", spec := "codeTakes", plainKeys := false, apart := false, narrowed := true }
def CodeTakesUptoSaid : Prop := codeTakesUptoRow.holds Try.pinned (OpenSpec.upto codeTakesSpec)

/-- 'dolmenlaw08.DeltaEncodes', WHERE WHAT IT READS IS OF BULK AT MOST 1048576: true; the input reads as it did. -/
def deltaEncodesUptoRow : OpenClaim := { program := "ytpkfkippbanagaa", sum := "f4da0b89b4f82b057380d48b4593d18d09fac0c4a18de8db68c9a872482875da", func := "dolmen/dolmenlaw08.DeltaEncodes", spec := "deltaEncodes", plainKeys := false, apart := false, narrowed := true }
def DeltaEncodesUptoSaid : Prop := deltaEncodesUptoRow.holds Try.pinned (OpenSpec.upto deltaEncodesSpec)

/-- 'dolmenlaw08.DeltaApplies', WHERE WHAT IT READS IS OF BULK AT MOST 1048576: true; the input reads as it did. -/
def deltaAppliesUptoRow : OpenClaim := { program := "ytpkfkippbanagaa", sum := "f4da0b89b4f82b057380d48b4593d18d09fac0c4a18de8db68c9a872482875da", func := "dolmen/dolmenlaw08.DeltaApplies", spec := "deltaApplies", plainKeys := false, apart := false, narrowed := true }
def DeltaAppliesUptoSaid : Prop := deltaAppliesUptoRow.holds Try.pinned (OpenSpec.upto deltaAppliesSpec)

/-- 'dolmenlaw08.DeltaBack', WHERE WHAT IT READS IS OF BULK AT MOST 1048576: true; the input reads as it did. -/
def deltaBackUptoRow : OpenClaim := { program := "ytpkfkippbanagaa", sum := "f4da0b89b4f82b057380d48b4593d18d09fac0c4a18de8db68c9a872482875da", func := "dolmen/dolmenlaw08.DeltaBack", spec := "deltaBack", plainKeys := false, apart := false, narrowed := true }
def DeltaBackUptoSaid : Prop := deltaBackUptoRow.holds Try.pinned (OpenSpec.upto deltaBackSpec)

/-- 'dolmenlaw08.DeltaRun', WHERE WHAT IT READS IS OF BULK AT MOST 1048576: true; the input reads as it did. -/
def deltaRunUptoRow : OpenClaim := { program := "ytpkfkippbanagaa", sum := "f4da0b89b4f82b057380d48b4593d18d09fac0c4a18de8db68c9a872482875da", func := "dolmen/dolmenlaw08.DeltaRun", spec := "deltaRun", plainKeys := false, apart := false, narrowed := true }
def DeltaRunUptoSaid : Prop := deltaRunUptoRow.holds Try.pinned (OpenSpec.upto deltaRunSpec)

/-- 'dolmenlaw08.DeltaCut', WHERE WHAT IT READS IS OF BULK AT MOST 1048576: true; the input reads as it did. -/
def deltaCutUptoRow : OpenClaim := { program := "ytpkfkippbanagaa", sum := "f4da0b89b4f82b057380d48b4593d18d09fac0c4a18de8db68c9a872482875da", func := "dolmen/dolmenlaw08.DeltaCut", spec := "deltaCut", plainKeys := false, apart := false, narrowed := true }
def DeltaCutUptoSaid : Prop := deltaCutUptoRow.holds Try.pinned (OpenSpec.upto deltaCutSpec)

/-- 'dolmenlaw08.DeltaMoves', WHERE WHAT IT READS IS OF BULK AT MOST 1048576: true; the input reads as it did. -/
def deltaMovesUptoRow : OpenClaim := { program := "ytpkfkippbanagaa", sum := "f4da0b89b4f82b057380d48b4593d18d09fac0c4a18de8db68c9a872482875da", func := "dolmen/dolmenlaw08.DeltaMoves", spec := "deltaMoves", plainKeys := false, apart := false, narrowed := true }
def DeltaMovesUptoSaid : Prop := deltaMovesUptoRow.holds Try.pinned (OpenSpec.upto deltaMovesSpec)

/-- 'dolmenlaw08.DeltaMost', WHERE WHAT IT READS IS OF BULK AT MOST 1048576: true; the input reads as it did. -/
def deltaMostUptoRow : OpenClaim := { program := "ytpkfkippbanagaa", sum := "f4da0b89b4f82b057380d48b4593d18d09fac0c4a18de8db68c9a872482875da", func := "dolmen/dolmenlaw08.DeltaMost", spec := "deltaMost", plainKeys := false, apart := false, narrowed := true }
def DeltaMostUptoSaid : Prop := deltaMostUptoRow.holds Try.pinned (OpenSpec.upto deltaMostSpec)

end Rows
end Go.Proofs.Ytpkfkippbanagaa
