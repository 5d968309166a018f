/-
  No cell of these rows narrows 'for every input' (looked for: loops, veiled, ifaces, maps, wideKeys, modest, calm, conditions, laid).
  DERIVED. THE GIVEN ROWS OF THIS SEAT. 9 by the template 'for every input the law returns true; each argument reads behind the call as it read before'; 0 by the template 'total and deterministic' (their statements: YtjikoeokmdnciaaTotals.lean).
  GIVEN WITH THE SEED: the statements are not yours to turn. If you find one false, say at which input.
  Laid BY PROGRAM, IN A SANDBOX (cutbox-rows.mjs): the forced cells as the released guide's own fill.sh prints them over the translation b10fdf976e74beba… (all of the seat's roots in one cut). By AI agents, Wed Nov 11 2026. No macro, syntax, notation, axiom, sorry.
-/
import Derived.Test.YtjikoeokmdnciaaChecked
import GoSem.Claim
import GoSem.ClaimJoined
import GoSem.ClaimMapViews
import Derived.JoinedTies
import Derived.KernelRfl
namespace Go.Proofs.Ytjikoeokmdnciaa
/- THE CELL 'sum', in the pinned program and in every row, IS THE sha256 OF THE DUMP (.gsa) THAT YtjikoeokmdnciaaProg.lean LOADS. Nothing in Lean hashes anything: it is a label: what it is worth is what the hold of that sum in a sandbox is worth. -/
noncomputable def Try.pinned : Pinned := { name := "ytjikoeokmdnciaa", sum := "b10fdf976e74bebaedfdefd9d45507fe5fe6e9c0d0ba99e98d3821f9f8caf268", checked := Try.checked }
namespace Rows
def none {H : Type} : Left H := { results := [], args := [] }

/-- 'dolmenlaw02.CodePuts': WHATEVER THE INPUT: true; the input reads as it did. -/
def codePutsSpec : ChangeSpec := { name := "codePuts", fn := fun _ => fun
  | [d1, d2, d3] => { results := [.lit (.bool true)], args := [d1, d2, d3] }
  | _ => none }
def codePutsRow : OpenClaim := { program := "ytjikoeokmdnciaa", sum := "b10fdf976e74bebaedfdefd9d45507fe5fe6e9c0d0ba99e98d3821f9f8caf268", func := "dolmen/dolmenlaw02.CodePuts", spec := "codePuts", plainKeys := false, apart := false }
def CodePutsSaid : Prop := codePutsRow.holds Try.pinned (OpenSpec.ofChange codePutsSpec)

/-- ITS FALSE NEIGHBOUR: 'it returns false'. Refute it at one input. -/
def codePutsWrong : ChangeSpec := { name := "codePuts", fn := fun _ => fun
  | [d1, d2, d3] => { results := [.lit (.bool false)], args := [d1, d2, d3] }
  | _ => none }
def CodePutsWrongFalsely : Prop := codePutsRow.holds Try.pinned (OpenSpec.ofChange codePutsWrong)

/-- 'dolmenlaw02.CodeTakes': WHATEVER THE INPUT: true; the input reads as it did. -/
def codeTakesSpec : ChangeSpec := { name := "codeTakes", fn := fun _ => fun
  | [d1, d2] => { results := [.lit (.bool true)], args := [d1, d2] }
  | _ => none }
def codeTakesRow : OpenClaim := { program := "ytjikoeokmdnciaa", sum := "b10fdf976e74bebaedfdefd9d45507fe5fe6e9c0d0ba99e98d3821f9f8caf268", func := "dolmen/dolmenlaw02.CodeTakes", spec := "codeTakes", plainKeys := false, apart := false }
def CodeTakesSaid : Prop := codeTakesRow.holds Try.pinned (OpenSpec.ofChange codeTakesSpec)

/-- ITS FALSE NEIGHBOUR: 'it returns false'. Refute it at one input. -/
def codeTakesWrong : ChangeSpec := { name := "codeTakes", fn := fun _ => fun
  | [d1, d2] => { results := [.lit (.bool false)], args := [d1, d2] }
  | _ => none }
def CodeTakesWrongFalsely : Prop := codeTakesRow.holds Try.pinned (OpenSpec.ofChange codeTakesWrong)

/-- 'dolmenlaw03.PressPresses': WHATEVER THE INPUT: true; the input reads as it did. -/
def pressPressesSpec : ChangeSpec := { name := "pressPresses", fn := fun _ => fun
  | [d] => { results := [.lit (.bool true)], args := [d] }
  | _ => none }
def pressPressesRow : OpenClaim := { program := "ytjikoeokmdnciaa", sum := "b10fdf976e74bebaedfdefd9d45507fe5fe6e9c0d0ba99e98d3821f9f8caf268", func := "dolmen/dolmenlaw03.PressPresses", spec := "pressPresses", plainKeys := false, apart := false }
def PressPressesSaid : Prop := pressPressesRow.holds Try.pinned (OpenSpec.ofChange pressPressesSpec)

/-- ITS FALSE NEIGHBOUR: 'it returns false'. Refute it at one input. -/
def pressPressesWrong : ChangeSpec := { name := "pressPresses", fn := fun _ => fun
  | [d] => { results := [.lit (.bool false)], args := [d] }
  | _ => none }
def PressPressesWrongFalsely : Prop := pressPressesRow.holds Try.pinned (OpenSpec.ofChange pressPressesWrong)

/-- 'dolmenlaw03.PressOpens': WHATEVER THE INPUT: true; the input reads as it did. -/
def pressOpensSpec : ChangeSpec := { name := "pressOpens", fn := fun _ => fun
  | [d1, d2] => { results := [.lit (.bool true)], args := [d1, d2] }
  | _ => none }
def pressOpensRow : OpenClaim := { program := "ytjikoeokmdnciaa", sum := "b10fdf976e74bebaedfdefd9d45507fe5fe6e9c0d0ba99e98d3821f9f8caf268", func := "dolmen/dolmenlaw03.PressOpens", spec := "pressOpens", plainKeys := false, apart := false }
def PressOpensSaid : Prop := pressOpensRow.holds Try.pinned (OpenSpec.ofChange pressOpensSpec)

/-- ITS FALSE NEIGHBOUR: 'it returns false'. Refute it at one input. -/
def pressOpensWrong : ChangeSpec := { name := "pressOpens", fn := fun _ => fun
  | [d1, d2] => { results := [.lit (.bool false)], args := [d1, d2] }
  | _ => none }
def PressOpensWrongFalsely : Prop := pressOpensRow.holds Try.pinned (OpenSpec.ofChange pressOpensWrong)

/-- 'dolmenlaw03.PressBack': WHATEVER THE INPUT: true; the input reads as it did. -/
def pressBackSpec : ChangeSpec := { name := "pressBack", fn := fun _ => fun
  | [d1, d2] => { results := [.lit (.bool true)], args := [d1, d2] }
  | _ => none }
def pressBackRow : OpenClaim := { program := "ytjikoeokmdnciaa", sum := "b10fdf976e74bebaedfdefd9d45507fe5fe6e9c0d0ba99e98d3821f9f8caf268", func := "dolmen/dolmenlaw03.PressBack", spec := "pressBack", plainKeys := false, apart := false }
def PressBackSaid : Prop := pressBackRow.holds Try.pinned (OpenSpec.ofChange pressBackSpec)

/-- ITS FALSE NEIGHBOUR: 'it returns false'. Refute it at one input. -/
def pressBackWrong : ChangeSpec := { name := "pressBack", fn := fun _ => fun
  | [d1, d2] => { results := [.lit (.bool false)], args := [d1, d2] }
  | _ => none }
def PressBackWrongFalsely : Prop := pressBackRow.holds Try.pinned (OpenSpec.ofChange pressBackWrong)

/-- 'dolmenlaw03.PressLike': WHATEVER THE INPUT: true; the input reads as it did. -/
def pressLikeSpec : ChangeSpec := { name := "pressLike", fn := fun _ => fun
  | [d1, d2] => { results := [.lit (.bool true)], args := [d1, d2] }
  | _ => none }
def pressLikeRow : OpenClaim := { program := "ytjikoeokmdnciaa", sum := "b10fdf976e74bebaedfdefd9d45507fe5fe6e9c0d0ba99e98d3821f9f8caf268", func := "dolmen/dolmenlaw03.PressLike", spec := "pressLike", plainKeys := false, apart := false }
def PressLikeSaid : Prop := pressLikeRow.holds Try.pinned (OpenSpec.ofChange pressLikeSpec)

/-- ITS FALSE NEIGHBOUR: 'it returns false'. Refute it at one input. -/
def pressLikeWrong : ChangeSpec := { name := "pressLike", fn := fun _ => fun
  | [d1, d2] => { results := [.lit (.bool false)], args := [d1, d2] }
  | _ => none }
def PressLikeWrongFalsely : Prop := pressLikeRow.holds Try.pinned (OpenSpec.ofChange pressLikeWrong)

/-- 'dolmenlaw03.PressCut': WHATEVER THE INPUT: true; the input reads as it did. -/
def pressCutSpec : ChangeSpec := { name := "pressCut", fn := fun _ => fun
  | [d1, d2, d3] => { results := [.lit (.bool true)], args := [d1, d2, d3] }
  | _ => none }
def pressCutRow : OpenClaim := { program := "ytjikoeokmdnciaa", sum := "b10fdf976e74bebaedfdefd9d45507fe5fe6e9c0d0ba99e98d3821f9f8caf268", func := "dolmen/dolmenlaw03.PressCut", spec := "pressCut", plainKeys := false, apart := false }
def PressCutSaid : Prop := pressCutRow.holds Try.pinned (OpenSpec.ofChange pressCutSpec)

/-- ITS FALSE NEIGHBOUR: 'it returns false'. Refute it at one input. -/
def pressCutWrong : ChangeSpec := { name := "pressCut", fn := fun _ => fun
  | [d1, d2, d3] => { results := [.lit (.bool false)], args := [d1, d2, d3] }
  | _ => none }
def PressCutWrongFalsely : Prop := pressCutRow.holds Try.pinned (OpenSpec.ofChange pressCutWrong)

/-- 'dolmenlaw03.PressRoom': WHATEVER THE INPUT: true; the input reads as it did. -/
def pressRoomSpec : ChangeSpec := { name := "pressRoom", fn := fun _ => fun
  | [d1, d2] => { results := [.lit (.bool true)], args := [d1, d2] }
  | _ => none }
def pressRoomRow : OpenClaim := { program := "ytjikoeokmdnciaa", sum := "b10fdf976e74bebaedfdefd9d45507fe5fe6e9c0d0ba99e98d3821f9f8caf268", func := "dolmen/dolmenlaw03.PressRoom", spec := "pressRoom", plainKeys := false, apart := false }
def PressRoomSaid : Prop := pressRoomRow.holds Try.pinned (OpenSpec.ofChange pressRoomSpec)

/-- ITS FALSE NEIGHBOUR: 'it returns false'. Refute it at one input. -/
def pressRoomWrong : ChangeSpec := { name := "pressRoom", fn := fun _ => fun
  | [d1, d2] => { results := [.lit (.bool false)], args := [d1, d2] }
  | _ => none }
def PressRoomWrongFalsely : Prop := pressRoomRow.holds Try.pinned (OpenSpec.ofChange pressRoomWrong)

/-- 'dolmenlaw03.PressRuns': WHATEVER THE INPUT: true; the input reads as it did. -/
def pressRunsSpec : ChangeSpec := { name := "pressRuns", fn := fun _ => fun
  | [d] => { results := [.lit (.bool true)], args := [d] }
  | _ => none }
def pressRunsRow : OpenClaim := { program := "ytjikoeokmdnciaa", sum := "b10fdf976e74bebaedfdefd9d45507fe5fe6e9c0d0ba99e98d3821f9f8caf268", func := "dolmen/dolmenlaw03.PressRuns", spec := "pressRuns", plainKeys := false, apart := false }
def PressRunsSaid : Prop := pressRunsRow.holds Try.pinned (OpenSpec.ofChange pressRunsSpec)

/-- ITS FALSE NEIGHBOUR: 'it returns false'. Refute it at one input. -/
def pressRunsWrong : ChangeSpec := { name := "pressRuns", fn := fun _ => fun
  | [d] => { results := [.lit (.bool false)], args := [d] }
  | _ => none }
def PressRunsWrongFalsely : Prop := pressRunsRow.holds Try.pinned (OpenSpec.ofChange pressRunsWrong)

/- THE SECOND FORM. 'bulk': how many values and letters a reading holds, each counted each time it is reached (what is shared counts as often as it is met; a slice's spare places count too). A statement '..UptoSaid' is the law's where the arguments, and the package variables that the reading takes, are together of bulk at most 1048576: NARROWER than '..Said'. Prove '..Said' where nothing that the law and all that it calls make is longer than what came in: it says more and counts as full. Else prove '..UptoSaid'. A law counts once. -/
mutual
def uptoBulk {H : Type} : DataW H → Nat
  | .lit (.string bytes) => bytes.length + 1
  | .lit _ => 1
  | .nil => 1
  | .ptr d => uptoBulk d + 1
  | .slice elems spare => uptoBulkAll elems + uptoBulkAll spare + 1
  | .agg parts => uptoBulkAll parts + 1
  | .iface _ d => uptoBulk d + 1
  | .map entries => uptoBulkEntries entries + 1
  | .held _ => 1
def uptoBulkAll {H : Type} : List (DataW H) → Nat
  | [] => 0
  | d :: r => uptoBulk d + uptoBulkAll r
def uptoBulkEntries {H : Type} : List (Lit × DataW H) → Nat
  | [] => 0
  | x :: r => uptoBulkEntry x + uptoBulkEntries r
def uptoBulkEntry {H : Type} : Lit × DataW H → Nat
  | (.string bytes, d) => bytes.length + uptoBulk d + 1
  | (_, d) => uptoBulk d + 1
 end
def uptoSmall : (H : Type) → List (DataW H) → Bool := fun _ ds => decide (uptoBulkAll ds ≤ 1048576)
def OpenSpec.upto (s : _root_.Go.ChangeSpec) : _root_.Go.OpenSpec := { _root_.Go.OpenSpec.ofChange s with cond := some uptoSmall }

/-- 'dolmenlaw02.CodePuts', WHERE WHAT IT READS IS OF BULK AT MOST 1048576: true; the input reads as it did. -/
def codePutsUptoRow : OpenClaim := { program := "ytjikoeokmdnciaa", sum := "b10fdf976e74bebaedfdefd9d45507fe5fe6e9c0d0ba99e98d3821f9f8caf268", func := "dolmen/dolmenlaw02.CodePuts", spec := "codePuts", plainKeys := false, apart := false, narrowed := true }
def CodePutsUptoSaid : Prop := codePutsUptoRow.holds Try.pinned (OpenSpec.upto codePutsSpec)

/-- 'dolmenlaw02.CodeTakes', WHERE WHAT IT READS IS OF BULK AT MOST 1048576: true; the input reads as it did. -/
def codeTakesUptoRow : OpenClaim := { program := "ytjikoeokmdnciaa", sum := "b10fdf976e74bebaedfdefd9d45507fe5fe6e9c0d0ba99e98d3821f9f8caf268", func := "dolmen/dolmenlaw02.CodeTakes", spec := "codeTakes", plainKeys := false, apart := false, narrowed := true }
def CodeTakesUptoSaid : Prop := codeTakesUptoRow.holds Try.pinned (OpenSpec.upto codeTakesSpec)

/-- 'dolmenlaw03.PressPresses', WHERE WHAT IT READS IS OF BULK AT MOST 1048576: true; the input reads as it did. -/
def pressPressesUptoRow : OpenClaim := { program := "ytjikoeokmdnciaa", sum := "b10fdf976e74bebaedfdefd9d45507fe5fe6e9c0d0ba99e98d3821f9f8caf268", func := "dolmen/dolmenlaw03.PressPresses", spec := "pressPresses", plainKeys := false, apart := false, narrowed := true }
def PressPressesUptoSaid : Prop := pressPressesUptoRow.holds Try.pinned (OpenSpec.upto pressPressesSpec)

/-- 'dolmenlaw03.PressOpens', WHERE WHAT IT READS IS OF BULK AT MOST 1048576: true; the input reads as it did. -/
def pressOpensUptoRow : OpenClaim := { program := "ytjikoeokmdnciaa", sum := "b10fdf976e74bebaedfdefd9d45507fe5fe6e9c0d0ba99e98d3821f9f8caf268", func := "dolmen/dolmenlaw03.PressOpens", spec := "pressOpens", plainKeys := false, apart := false, narrowed := true }
def PressOpensUptoSaid : Prop := pressOpensUptoRow.holds Try.pinned (OpenSpec.upto pressOpensSpec)

/-- 'dolmenlaw03.PressBack', WHERE WHAT IT READS IS OF BULK AT MOST 1048576: true; the input reads as it did. -/
def pressBackUptoRow : OpenClaim := { program := "ytjikoeokmdnciaa", sum := "b10fdf976e74bebaedfdefd9d45507fe5fe6e9c0d0ba99e98d3821f9f8caf268", func := "dolmen/dolmenlaw03.PressBack", spec := "pressBack", plainKeys := false, apart := false, narrowed := true }
def PressBackUptoSaid : Prop := pressBackUptoRow.holds Try.pinned (OpenSpec.upto pressBackSpec)

/-- 'dolmenlaw03.PressLike', WHERE WHAT IT READS IS OF BULK AT MOST 1048576: true; the input reads as it did. -/
def pressLikeUptoRow : OpenClaim := { program := "ytjikoeokmdnciaa", sum := "b10fdf976e74bebaedfdefd9d45507fe5fe6e9c0d0ba99e98d3821f9f8caf268", func := "dolmen/dolmenlaw03.PressLike", spec := "pressLike", plainKeys := false, apart := false, narrowed := true }
def PressLikeUptoSaid : Prop := pressLikeUptoRow.holds Try.pinned (OpenSpec.upto pressLikeSpec)

/-- 'dolmenlaw03.PressCut', WHERE WHAT IT READS IS OF BULK AT MOST 1048576: true; the input reads as it did. -/
def pressCutUptoRow : OpenClaim := { program := "ytjikoeokmdnciaa", sum := "b10fdf976e74bebaedfdefd9d45507fe5fe6e9c0d0ba99e98d3821f9f8caf268", func := "dolmen/dolmenlaw03.PressCut", spec := "pressCut", plainKeys := false, apart := false, narrowed := true }
def PressCutUptoSaid : Prop := pressCutUptoRow.holds Try.pinned (OpenSpec.upto pressCutSpec)

/-- 'dolmenlaw03.PressRoom', WHERE WHAT IT READS IS OF BULK AT MOST 1048576: true; the input reads as it did. -/
def pressRoomUptoRow : OpenClaim := { program := "ytjikoeokmdnciaa", sum := "b10fdf976e74bebaedfdefd9d45507fe5fe6e9c0d0ba99e98d3821f9f8caf268", func := "dolmen/dolmenlaw03.PressRoom", spec := "pressRoom", plainKeys := false, apart := false, narrowed := true }
def PressRoomUptoSaid : Prop := pressRoomUptoRow.holds Try.pinned (OpenSpec.upto pressRoomSpec)

/-- 'dolmenlaw03.PressRuns', WHERE WHAT IT READS IS OF BULK AT MOST 1048576: true; the input reads as it did. -/
def pressRunsUptoRow : OpenClaim := { program := "ytjikoeokmdnciaa", sum := "b10fdf976e74bebaedfdefd9d45507fe5fe6e9c0d0ba99e98d3821f9f8caf268", func := "dolmen/dolmenlaw03.PressRuns", spec := "pressRuns", plainKeys := false, apart := false, narrowed := true }
def PressRunsUptoSaid : Prop := pressRunsUptoRow.holds Try.pinned (OpenSpec.upto pressRunsSpec)

end Rows
end Go.Proofs.Ytjikoeokmdnciaa
