/-
  No cell of these rows narrows 'for every input' (looked for: loops, veiled, ifaces, maps, wideKeys, modest, calm, conditions, laid).
  DERIVED. THE GIVEN ROWS OF THIS SEAT. 11 by the template 'for every input the law returns true; each argument reads behind the call as it read before'; 0 by the template 'total and deterministic' (their statements: YtcefbhmmijmefaaTotals.lean).
  GIVEN WITH THE SEED: the statements are not yours to turn. If you find one false, say at which input.
  Laid BY PROGRAM, IN A SANDBOX (cutbox-rows.mjs): the forced cells as the released guide's own fill.sh prints them over the translation d28a4a605db00ca4… (all of the seat's roots in one cut). By AI agents, Wed Nov 11 2026. No macro, syntax, notation, axiom, sorry.
-/
import Derived.Test.YtcefbhmmijmefaaChecked
import GoSem.Claim
import GoSem.ClaimJoined
import GoSem.ClaimMapViews
import Derived.JoinedTies
import Derived.KernelRfl
namespace Go.Proofs.Ytcefbhmmijmefaa
/- THE CELL 'sum', in the pinned program and in every row, IS THE sha256 OF THE DUMP (.gsa) THAT YtcefbhmmijmefaaProg.lean LOADS. Nothing in Lean hashes anything: it is a label: what it is worth is what the hold of that sum in a sandbox is worth. -/
noncomputable def Try.pinned : Pinned := { name := "ytcefbhmmijmefaa", sum := "d28a4a605db00ca4886c3dc39263ec4e42cc44fa2c8a3c59a0de5cad868c0e48", checked := Try.checked }
namespace Rows
def none {H : Type} : Left H := { results := [], args := [] }

/-- 'dolmenlaw02.CodePuts': WHATEVER THE INPUT: true; the input reads as it did. -/
def codePutsSpec : ChangeSpec := { name := "codePuts", fn := fun _ => fun
  | [d1, d2, d3] => { results := [.lit (.bool true)], args := [d1, d2, d3] }
  | _ => none }
def codePutsRow : OpenClaim := { program := "ytcefbhmmijmefaa", sum := "d28a4a605db00ca4886c3dc39263ec4e42cc44fa2c8a3c59a0de5cad868c0e48", func := "dolmen/dolmenlaw02.CodePuts", spec := "codePuts", apart := false }
def CodePutsSaid : Prop := codePutsRow.holds Try.pinned (OpenSpec.ofChange codePutsSpec)

/-- ITS FALSE NEIGHBOUR: 'it returns false'. Refute it at one input. -/
def codePutsWrong : ChangeSpec := { name := "codePuts", fn := fun _ => fun
  | [d1, d2, d3] => { results := [.lit (.bool false)], args := [d1, d2, d3] }
  | _ => none }
def CodePutsWrongFalsely : Prop := codePutsRow.holds Try.pinned (OpenSpec.ofChange codePutsWrong)

/-- 'dolmenlaw02.CodeTakes': WHATEVER THE INPUT: true; the input reads as it did. -/
def codeTakesSpec : ChangeSpec := { name := "codeTakes", fn := fun _ => fun
  | [d1, d2] => { results := [.lit (.bool true)], args := [d1, d2] }
  | _ => none }
def codeTakesRow : OpenClaim := { program := "ytcefbhmmijmefaa", sum := "d28a4a605db00ca4886c3dc39263ec4e42cc44fa2c8a3c59a0de5cad868c0e48", func := "dolmen/dolmenlaw02.CodeTakes", spec := "codeTakes", apart := false }
def CodeTakesSaid : Prop := codeTakesRow.holds Try.pinned (OpenSpec.ofChange codeTakesSpec)

/-- ITS FALSE NEIGHBOUR: 'it returns false'. Refute it at one input. -/
def codeTakesWrong : ChangeSpec := { name := "codeTakes", fn := fun _ => fun
  | [d1, d2] => { results := [.lit (.bool false)], args := [d1, d2] }
  | _ => none }
def CodeTakesWrongFalsely : Prop := codeTakesRow.holds Try.pinned (OpenSpec.ofChange codeTakesWrong)

/-- 'dolmenlaw01.SumIs': WHATEVER THE INPUT: true; the input reads as it did. -/
def sumIsSpec : ChangeSpec := { name := "sumIs", fn := fun _ => fun
  | [d] => { results := [.lit (.bool true)], args := [d] }
  | _ => none }
def sumIsRow : OpenClaim := { program := "ytcefbhmmijmefaa", sum := "d28a4a605db00ca4886c3dc39263ec4e42cc44fa2c8a3c59a0de5cad868c0e48", func := "dolmen/dolmenlaw01.SumIs", spec := "sumIs", inPlace := ["internal/bytealg.IndexByteString"], recurses := true, apart := false }
def SumIsSaid : Prop := sumIsRow.holds Try.pinned (OpenSpec.ofChange sumIsSpec)

/-- ITS FALSE NEIGHBOUR: 'it returns false'. Refute it at one input. -/
def sumIsWrong : ChangeSpec := { name := "sumIs", fn := fun _ => fun
  | [d] => { results := [.lit (.bool false)], args := [d] }
  | _ => none }
def SumIsWrongFalsely : Prop := sumIsRow.holds Try.pinned (OpenSpec.ofChange sumIsWrong)

/-- 'dolmenlaw01.SumHex': WHATEVER THE INPUT: true; the input reads as it did. -/
def sumHexSpec : ChangeSpec := { name := "sumHex", fn := fun _ => fun
  | [d1, d2] => { results := [.lit (.bool true)], args := [d1, d2] }
  | _ => none }
def sumHexRow : OpenClaim := { program := "ytcefbhmmijmefaa", sum := "d28a4a605db00ca4886c3dc39263ec4e42cc44fa2c8a3c59a0de5cad868c0e48", func := "dolmen/dolmenlaw01.SumHex", spec := "sumHex", inPlace := ["internal/bytealg.IndexByteString"], recurses := true, apart := false }
def SumHexSaid : Prop := sumHexRow.holds Try.pinned (OpenSpec.ofChange sumHexSpec)

/-- ITS FALSE NEIGHBOUR: 'it returns false'. Refute it at one input. -/
def sumHexWrong : ChangeSpec := { name := "sumHex", fn := fun _ => fun
  | [d1, d2] => { results := [.lit (.bool false)], args := [d1, d2] }
  | _ => none }
def SumHexWrongFalsely : Prop := sumHexRow.holds Try.pinned (OpenSpec.ofChange sumHexWrong)

/-- 'dolmenlaw06.ObjectDecodes': WHATEVER THE INPUT: true; the input reads as it did. -/
def objectDecodesSpec : ChangeSpec := { name := "objectDecodes", fn := fun _ => fun
  | [d] => { results := [.lit (.bool true)], args := [d] }
  | _ => none }
def objectDecodesRow : OpenClaim := { program := "ytcefbhmmijmefaa", sum := "d28a4a605db00ca4886c3dc39263ec4e42cc44fa2c8a3c59a0de5cad868c0e48", func := "dolmen/dolmenlaw06.ObjectDecodes", spec := "objectDecodes", unfollowed := true, recurses := true, apart := false }
def ObjectDecodesSaid : Prop := objectDecodesRow.holds Try.pinned (OpenSpec.ofChange objectDecodesSpec)

/-- ITS FALSE NEIGHBOUR: 'it returns false'. Refute it at one input. -/
def objectDecodesWrong : ChangeSpec := { name := "objectDecodes", fn := fun _ => fun
  | [d] => { results := [.lit (.bool false)], args := [d] }
  | _ => none }
def ObjectDecodesWrongFalsely : Prop := objectDecodesRow.holds Try.pinned (OpenSpec.ofChange objectDecodesWrong)

/-- 'dolmenlaw06.ObjectApart': WHATEVER THE INPUT: true; the input reads as it did. -/
def objectApartSpec : ChangeSpec := { name := "objectApart", fn := fun _ => fun
  | [d1, d2] => { results := [.lit (.bool true)], args := [d1, d2] }
  | _ => none }
def objectApartRow : OpenClaim := { program := "ytcefbhmmijmefaa", sum := "d28a4a605db00ca4886c3dc39263ec4e42cc44fa2c8a3c59a0de5cad868c0e48", func := "dolmen/dolmenlaw06.ObjectApart", spec := "objectApart", unfollowed := true, recurses := true, apart := false }
def ObjectApartSaid : Prop := objectApartRow.holds Try.pinned (OpenSpec.ofChange objectApartSpec)

/-- ITS FALSE NEIGHBOUR: 'it returns false'. Refute it at one input. -/
def objectApartWrong : ChangeSpec := { name := "objectApart", fn := fun _ => fun
  | [d1, d2] => { results := [.lit (.bool false)], args := [d1, d2] }
  | _ => none }
def ObjectApartWrongFalsely : Prop := objectApartRow.holds Try.pinned (OpenSpec.ofChange objectApartWrong)

/-- 'dolmenlaw06.ObjectKinds': WHATEVER THE INPUT: true; the input reads as it did. -/
def objectKindsSpec : ChangeSpec := { name := "objectKinds", fn := fun _ => fun
  | [d] => { results := [.lit (.bool true)], args := [d] }
  | _ => none }
def objectKindsRow : OpenClaim := { program := "ytcefbhmmijmefaa", sum := "d28a4a605db00ca4886c3dc39263ec4e42cc44fa2c8a3c59a0de5cad868c0e48", func := "dolmen/dolmenlaw06.ObjectKinds", spec := "objectKinds", unfollowed := true, recurses := true, apart := false }
def ObjectKindsSaid : Prop := objectKindsRow.holds Try.pinned (OpenSpec.ofChange objectKindsSpec)

/-- ITS FALSE NEIGHBOUR: 'it returns false'. Refute it at one input. -/
def objectKindsWrong : ChangeSpec := { name := "objectKinds", fn := fun _ => fun
  | [d] => { results := [.lit (.bool false)], args := [d] }
  | _ => none }
def ObjectKindsWrongFalsely : Prop := objectKindsRow.holds Try.pinned (OpenSpec.ofChange objectKindsWrong)

/-- 'dolmenlaw06.ObjectKeeps': WHATEVER THE INPUT: true; the input reads as it did. -/
def objectKeepsSpec : ChangeSpec := { name := "objectKeeps", fn := fun _ => fun
  | [d] => { results := [.lit (.bool true)], args := [d] }
  | _ => none }
def objectKeepsRow : OpenClaim := { program := "ytcefbhmmijmefaa", sum := "d28a4a605db00ca4886c3dc39263ec4e42cc44fa2c8a3c59a0de5cad868c0e48", func := "dolmen/dolmenlaw06.ObjectKeeps", spec := "objectKeeps", unfollowed := true, recurses := true, apart := false }
def ObjectKeepsSaid : Prop := objectKeepsRow.holds Try.pinned (OpenSpec.ofChange objectKeepsSpec)

/-- ITS FALSE NEIGHBOUR: 'it returns false'. Refute it at one input. -/
def objectKeepsWrong : ChangeSpec := { name := "objectKeeps", fn := fun _ => fun
  | [d] => { results := [.lit (.bool false)], args := [d] }
  | _ => none }
def ObjectKeepsWrongFalsely : Prop := objectKeepsRow.holds Try.pinned (OpenSpec.ofChange objectKeepsWrong)

/-- 'dolmenlaw06.ObjectLinks': WHATEVER THE INPUT: true; the input reads as it did. -/
def objectLinksSpec : ChangeSpec := { name := "objectLinks", fn := fun _ => fun
  | [d] => { results := [.lit (.bool true)], args := [d] }
  | _ => none }
def objectLinksRow : OpenClaim := { program := "ytcefbhmmijmefaa", sum := "d28a4a605db00ca4886c3dc39263ec4e42cc44fa2c8a3c59a0de5cad868c0e48", func := "dolmen/dolmenlaw06.ObjectLinks", spec := "objectLinks", unfollowed := true, recurses := true, apart := false }
def ObjectLinksSaid : Prop := objectLinksRow.holds Try.pinned (OpenSpec.ofChange objectLinksSpec)

/-- ITS FALSE NEIGHBOUR: 'it returns false'. Refute it at one input. -/
def objectLinksWrong : ChangeSpec := { name := "objectLinks", fn := fun _ => fun
  | [d] => { results := [.lit (.bool false)], args := [d] }
  | _ => none }
def ObjectLinksWrongFalsely : Prop := objectLinksRow.holds Try.pinned (OpenSpec.ofChange objectLinksWrong)

/-- 'dolmenlaw06.ObjectBack': WHATEVER THE INPUT: true; the input reads as it did. -/
def objectBackSpec : ChangeSpec := { name := "objectBack", fn := fun _ => fun
  | [d1, d2] => { results := [.lit (.bool true)], args := [d1, d2] }
  | _ => none }
def objectBackRow : OpenClaim := { program := "ytcefbhmmijmefaa", sum := "d28a4a605db00ca4886c3dc39263ec4e42cc44fa2c8a3c59a0de5cad868c0e48", func := "dolmen/dolmenlaw06.ObjectBack", spec := "objectBack", unfollowed := true, recurses := true, apart := false }
def ObjectBackSaid : Prop := objectBackRow.holds Try.pinned (OpenSpec.ofChange objectBackSpec)

/-- ITS FALSE NEIGHBOUR: 'it returns false'. Refute it at one input. -/
def objectBackWrong : ChangeSpec := { name := "objectBack", fn := fun _ => fun
  | [d1, d2] => { results := [.lit (.bool false)], args := [d1, d2] }
  | _ => none }
def ObjectBackWrongFalsely : Prop := objectBackRow.holds Try.pinned (OpenSpec.ofChange objectBackWrong)

/-- 'dolmenlaw06.ObjectEncodes': WHATEVER THE INPUT: true; the input reads as it did. -/
def objectEncodesSpec : ChangeSpec := { name := "objectEncodes", fn := fun _ => fun
  | [d] => { results := [.lit (.bool true)], args := [d] }
  | _ => none }
def objectEncodesRow : OpenClaim := { program := "ytcefbhmmijmefaa", sum := "d28a4a605db00ca4886c3dc39263ec4e42cc44fa2c8a3c59a0de5cad868c0e48", func := "dolmen/dolmenlaw06.ObjectEncodes", spec := "objectEncodes", inPlace := ["internal/bytealg.IndexByteString"], unfollowed := true, recurses := true, apart := false }
def ObjectEncodesSaid : Prop := objectEncodesRow.holds Try.pinned (OpenSpec.ofChange objectEncodesSpec)

/-- ITS FALSE NEIGHBOUR: 'it returns false'. Refute it at one input. -/
def objectEncodesWrong : ChangeSpec := { name := "objectEncodes", fn := fun _ => fun
  | [d] => { results := [.lit (.bool false)], args := [d] }
  | _ => none }
def ObjectEncodesWrongFalsely : Prop := objectEncodesRow.holds Try.pinned (OpenSpec.ofChange objectEncodesWrong)

/- THE SECOND FORM. 'bulk': how many values and letters a reading holds, each counted each time it is reached (what is shared counts as often as it is met; a slice's spare places count too). A statement '..UptoSaid' is the law's where the arguments, and the package variables that the reading takes, are together of bulk at most 1048576: NARROWER than '..Said'. Prove '..Said' where nothing that the law and all that it calls make is longer than what came in: it says more and counts as full. Else prove '..UptoSaid'. A law counts once. -/
mutual
def uptoBulk {H : Type} : DataW H → Nat
  | .lit (.string bytes) => bytes.length + 1
  | .lit _ => 1
  | .nil => 1
  | .ptr d => uptoBulk d + 1
  | .slice elems spare => uptoBulkAll elems + uptoBulkAll spare + 1
  | .agg parts => uptoBulkAll parts + 1
  | .iface _ d => uptoBulk d + 1
  | .map entries => uptoBulkEntries entries + 1
  | .held _ => 1
def uptoBulkAll {H : Type} : List (DataW H) → Nat
  | [] => 0
  | d :: r => uptoBulk d + uptoBulkAll r
def uptoBulkEntries {H : Type} : List (Lit × DataW H) → Nat
  | [] => 0
  | x :: r => uptoBulkEntry x + uptoBulkEntries r
def uptoBulkEntry {H : Type} : Lit × DataW H → Nat
  | (.string bytes, d) => bytes.length + uptoBulk d + 1
  | (_, d) => uptoBulk d + 1
 end
def uptoSmall : (H : Type) → List (DataW H) → Bool := fun _ ds => decide (uptoBulkAll ds ≤ 1048576)
def OpenSpec.upto (s : _root_.Go.ChangeSpec) : _root_.Go.OpenSpec := { _root_.Go.OpenSpec.ofChange s with cond := some uptoSmall }

/-- 'dolmenlaw02.CodePuts', WHERE WHAT IT READS IS OF BULK AT MOST 1048576: true; the input reads as it did. -/
def codePutsUptoRow : OpenClaim := { program := "ytcefbhmmijmefaa", sum := "d28a4a605db00ca4886c3dc39263ec4e42cc44fa2c8a3c59a0de5cad868c0e48", func := "dolmen/dolmenlaw02.CodePuts", spec := "codePuts", apart := false, narrowed := true }
def CodePutsUptoSaid : Prop := codePutsUptoRow.holds Try.pinned (OpenSpec.upto codePutsSpec)

/-- 'dolmenlaw02.CodeTakes', WHERE WHAT IT READS IS OF BULK AT MOST 1048576: true; the input reads as it did. -/
def codeTakesUptoRow : OpenClaim := { program := "ytcefbhmmijmefaa", sum := "d28a4a605db00ca4886c3dc39263ec4e42cc44fa2c8a3c59a0de5cad868c0e48", func := "dolmen/dolmenlaw02.CodeTakes", spec := "codeTakes", apart := false, narrowed := true }
def CodeTakesUptoSaid : Prop := codeTakesUptoRow.holds Try.pinned (OpenSpec.upto codeTakesSpec)

/-- 'dolmenlaw01.SumIs', WHERE WHAT IT READS IS OF BULK AT MOST 1048576: true; the input reads as it did. -/
def sumIsUptoRow : OpenClaim := { program := "ytcefbhmmijmefaa", sum := "d28a4a605db00ca4886c3dc39263ec4e42cc44fa2c8a3c59a0de5cad868c0e48", func := "dolmen/dolmenlaw01.SumIs", spec := "sumIs", inPlace := ["internal/bytealg.IndexByteString"], recurses := true, apart := false, narrowed := true }
def SumIsUptoSaid : Prop := sumIsUptoRow.holds Try.pinned (OpenSpec.upto sumIsSpec)

/-- 'dolmenlaw01.SumHex', WHERE WHAT IT READS IS OF BULK AT MOST 1048576: true; the input reads as it did. -/
def sumHexUptoRow : OpenClaim := { program := "ytcefbhmmijmefaa", sum := "d28a4a605db00ca4886c3dc39263ec4e42cc44fa2c8a3c59a0de5cad868c0e48", func := "dolmen/dolmenlaw01.SumHex", spec := "sumHex", inPlace := ["internal/bytealg.IndexByteString"], recurses := true, apart := false, narrowed := true }
def SumHexUptoSaid : Prop := sumHexUptoRow.holds Try.pinned (OpenSpec.upto sumHexSpec)

/-- 'dolmenlaw06.ObjectDecodes', WHERE WHAT IT READS IS OF BULK AT MOST 1048576: true; the input reads as it did. -/
def objectDecodesUptoRow : OpenClaim := { program := "ytcefbhmmijmefaa", sum := "d28a4a605db00ca4886c3dc39263ec4e42cc44fa2c8a3c59a0de5cad868c0e48", func := "dolmen/dolmenlaw06.ObjectDecodes", spec := "objectDecodes", unfollowed := true, recurses := true, apart := false, narrowed := true }
def ObjectDecodesUptoSaid : Prop := objectDecodesUptoRow.holds Try.pinned (OpenSpec.upto objectDecodesSpec)

/-- 'dolmenlaw06.ObjectApart', WHERE WHAT IT READS IS OF BULK AT MOST 1048576: true; the input reads as it did. -/
def objectApartUptoRow : OpenClaim := { program := "ytcefbhmmijmefaa", sum := "d28a4a605db00ca4886c3dc39263ec4e42cc44fa2c8a3c59a0de5cad868c0e48", func := "dolmen/dolmenlaw06.ObjectApart", spec := "objectApart", unfollowed := true, recurses := true, apart := false, narrowed := true }
def ObjectApartUptoSaid : Prop := objectApartUptoRow.holds Try.pinned (OpenSpec.upto objectApartSpec)

/-- 'dolmenlaw06.ObjectKinds', WHERE WHAT IT READS IS OF BULK AT MOST 1048576: true; the input reads as it did. -/
def objectKindsUptoRow : OpenClaim := { program := "ytcefbhmmijmefaa", sum := "d28a4a605db00ca4886c3dc39263ec4e42cc44fa2c8a3c59a0de5cad868c0e48", func := "dolmen/dolmenlaw06.ObjectKinds", spec := "objectKinds", unfollowed := true, recurses := true, apart := false, narrowed := true }
def ObjectKindsUptoSaid : Prop := objectKindsUptoRow.holds Try.pinned (OpenSpec.upto objectKindsSpec)

/-- 'dolmenlaw06.ObjectKeeps', WHERE WHAT IT READS IS OF BULK AT MOST 1048576: true; the input reads as it did. -/
def objectKeepsUptoRow : OpenClaim := { program := "ytcefbhmmijmefaa", sum := "d28a4a605db00ca4886c3dc39263ec4e42cc44fa2c8a3c59a0de5cad868c0e48", func := "dolmen/dolmenlaw06.ObjectKeeps", spec := "objectKeeps", unfollowed := true, recurses := true, apart := false, narrowed := true }
def ObjectKeepsUptoSaid : Prop := objectKeepsUptoRow.holds Try.pinned (OpenSpec.upto objectKeepsSpec)

/-- 'dolmenlaw06.ObjectLinks', WHERE WHAT IT READS IS OF BULK AT MOST 1048576: true; the input reads as it did. -/
def objectLinksUptoRow : OpenClaim := { program := "ytcefbhmmijmefaa", sum := "d28a4a605db00ca4886c3dc39263ec4e42cc44fa2c8a3c59a0de5cad868c0e48", func := "dolmen/dolmenlaw06.ObjectLinks", spec := "objectLinks", unfollowed := true, recurses := true, apart := false, narrowed := true }
def ObjectLinksUptoSaid : Prop := objectLinksUptoRow.holds Try.pinned (OpenSpec.upto objectLinksSpec)

/-- 'dolmenlaw06.ObjectBack', WHERE WHAT IT READS IS OF BULK AT MOST 1048576: true; the input reads as it did. -/
def objectBackUptoRow : OpenClaim := { program := "ytcefbhmmijmefaa", sum := "d28a4a605db00ca4886c3dc39263ec4e42cc44fa2c8a3c59a0de5cad868c0e48", func := "dolmen/dolmenlaw06.ObjectBack", spec := "objectBack", unfollowed := true, recurses := true, apart := false, narrowed := true }
def ObjectBackUptoSaid : Prop := objectBackUptoRow.holds Try.pinned (OpenSpec.upto objectBackSpec)

/-- 'dolmenlaw06.ObjectEncodes', WHERE WHAT IT READS IS OF BULK AT MOST 1048576: true; the input reads as it did. -/
def objectEncodesUptoRow : OpenClaim := { program := "ytcefbhmmijmefaa", sum := "d28a4a605db00ca4886c3dc39263ec4e42cc44fa2c8a3c59a0de5cad868c0e48", func := "dolmen/dolmenlaw06.ObjectEncodes", spec := "objectEncodes", inPlace := ["internal/bytealg.IndexByteString"], unfollowed := true, recurses := true, apart := false, narrowed := true }
def ObjectEncodesUptoSaid : Prop := objectEncodesUptoRow.holds Try.pinned (OpenSpec.upto objectEncodesSpec)

end Rows
end Go.Proofs.Ytcefbhmmijmefaa
