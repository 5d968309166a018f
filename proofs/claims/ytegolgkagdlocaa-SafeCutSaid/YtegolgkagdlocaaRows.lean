/-
  No cell of these rows narrows 'for every input' (looked for: loops, veiled, ifaces, maps, wideKeys, modest, calm, conditions, laid).
  DERIVED. THE GIVEN ROWS OF THIS SEAT. 6 by the template 'for every input the law returns true; each argument reads behind the call as it read before'; 0 by the template 'total and deterministic' (their statements: YtegolgkagdlocaaTotals.lean).
  GIVEN WITH THE SEED: the statements are not yours to turn. If you find one false, say at which input.
  Laid BY PROGRAM, IN A SANDBOX (cutbox-rows.mjs): the forced cells as the released guide's own fill.sh prints them over the translation f5f1a6a2a56f7603… (all of the seat's roots in one cut). By AI agents, Wed Nov 11 2026. No macro, syntax, notation, axiom, sorry.
-/
import Derived.Test.YtegolgkagdlocaaChecked
import GoSem.Claim
import GoSem.ClaimJoined
import GoSem.ClaimMapViews
import Derived.JoinedTies
import Derived.KernelRfl
namespace Go.Proofs.Ytegolgkagdlocaa
/- THE CELL 'sum', in the pinned program and in every row, IS THE sha256 OF THE DUMP (.gsa) THAT YtegolgkagdlocaaProg.lean LOADS. Nothing in Lean hashes anything: it is a label: what it is worth is what the hold of that sum in a sandbox is worth. -/
noncomputable def Try.pinned : Pinned := { name := "ytegolgkagdlocaa", sum := "f5f1a6a2a56f7603832343cb098e008b700286941a18c2127253e1dbc3f54281", checked := Try.checked }
namespace Rows
def none {H : Type} : Left H := { results := [], args := [] }

/-- 'dolmenlaw05.SafeRoom': WHATEVER THE INPUT: true; the input reads as it did. -/
def safeRoomSpec : ChangeSpec := { name := "safeRoom", fn := fun _ => fun
  | [d1, d2, d3, d4] => { results := [.lit (.bool true)], args := [d1, d2, d3, d4] }
  | _ => none }
def safeRoomRow : OpenClaim := { program := "ytegolgkagdlocaa", sum := "f5f1a6a2a56f7603832343cb098e008b700286941a18c2127253e1dbc3f54281", func := "dolmen/dolmenlaw05.SafeRoom", spec := "safeRoom", inPlace := ["internal/bytealg.IndexByteString", "sync/atomic.AddInt64", "sync/atomic.LoadInt64"], unfollowed := true, recurses := true, apart := false }
def SafeRoomSaid : Prop := safeRoomRow.holds Try.pinned (OpenSpec.ofChange safeRoomSpec)

/-- ITS FALSE NEIGHBOUR: 'it returns false'. Refute it at one input. -/
def safeRoomWrong : ChangeSpec := { name := "safeRoom", fn := fun _ => fun
  | [d1, d2, d3, d4] => { results := [.lit (.bool false)], args := [d1, d2, d3, d4] }
  | _ => none }
def SafeRoomWrongFalsely : Prop := safeRoomRow.holds Try.pinned (OpenSpec.ofChange safeRoomWrong)

/-- 'dolmenlaw05.SafeOps': WHATEVER THE INPUT: true; the input reads as it did. -/
def safeOpsSpec : ChangeSpec := { name := "safeOps", fn := fun _ => fun
  | [d1, d2] => { results := [.lit (.bool true)], args := [d1, d2] }
  | _ => none }
def safeOpsRow : OpenClaim := { program := "ytegolgkagdlocaa", sum := "f5f1a6a2a56f7603832343cb098e008b700286941a18c2127253e1dbc3f54281", func := "dolmen/dolmenlaw05.SafeOps", spec := "safeOps", inPlace := ["internal/bytealg.IndexByteString", "sync/atomic.AddInt64", "sync/atomic.LoadInt64"], unfollowed := true, recurses := true, apart := false }
def SafeOpsSaid : Prop := safeOpsRow.holds Try.pinned (OpenSpec.ofChange safeOpsSpec)

/-- ITS FALSE NEIGHBOUR: 'it returns false'. Refute it at one input. -/
def safeOpsWrong : ChangeSpec := { name := "safeOps", fn := fun _ => fun
  | [d1, d2] => { results := [.lit (.bool false)], args := [d1, d2] }
  | _ => none }
def SafeOpsWrongFalsely : Prop := safeOpsRow.holds Try.pinned (OpenSpec.ofChange safeOpsWrong)

/-- 'dolmenlaw05.SafeOver': WHATEVER THE INPUT: true; the input reads as it did. -/
def safeOverSpec : ChangeSpec := { name := "safeOver", fn := fun _ => fun
  | [d1, d2, d3] => { results := [.lit (.bool true)], args := [d1, d2, d3] }
  | _ => none }
def safeOverRow : OpenClaim := { program := "ytegolgkagdlocaa", sum := "f5f1a6a2a56f7603832343cb098e008b700286941a18c2127253e1dbc3f54281", func := "dolmen/dolmenlaw05.SafeOver", spec := "safeOver", inPlace := ["internal/bytealg.IndexByteString", "sync/atomic.AddInt64", "sync/atomic.LoadInt64"], unfollowed := true, recurses := true, apart := false }
def SafeOverSaid : Prop := safeOverRow.holds Try.pinned (OpenSpec.ofChange safeOverSpec)

/-- ITS FALSE NEIGHBOUR: 'it returns false'. Refute it at one input. -/
def safeOverWrong : ChangeSpec := { name := "safeOver", fn := fun _ => fun
  | [d1, d2, d3] => { results := [.lit (.bool false)], args := [d1, d2, d3] }
  | _ => none }
def SafeOverWrongFalsely : Prop := safeOverRow.holds Try.pinned (OpenSpec.ofChange safeOverWrong)

/-- 'dolmenlaw05.SafeSweeps': WHATEVER THE INPUT: true; the input reads as it did. -/
def safeSweepsSpec : ChangeSpec := { name := "safeSweeps", fn := fun _ => fun
  | [d1, d2] => { results := [.lit (.bool true)], args := [d1, d2] }
  | _ => none }
def safeSweepsRow : OpenClaim := { program := "ytegolgkagdlocaa", sum := "f5f1a6a2a56f7603832343cb098e008b700286941a18c2127253e1dbc3f54281", func := "dolmen/dolmenlaw05.SafeSweeps", spec := "safeSweeps", inPlace := ["internal/bytealg.IndexByteString", "sync/atomic.AddInt64", "sync/atomic.LoadInt64"], unfollowed := true, recurses := true, apart := false }
def SafeSweepsSaid : Prop := safeSweepsRow.holds Try.pinned (OpenSpec.ofChange safeSweepsSpec)

/-- ITS FALSE NEIGHBOUR: 'it returns false'. Refute it at one input. -/
def safeSweepsWrong : ChangeSpec := { name := "safeSweeps", fn := fun _ => fun
  | [d1, d2] => { results := [.lit (.bool false)], args := [d1, d2] }
  | _ => none }
def SafeSweepsWrongFalsely : Prop := safeSweepsRow.holds Try.pinned (OpenSpec.ofChange safeSweepsWrong)

/-- 'dolmenlaw05.SafePlays': WHATEVER THE INPUT: true; the input reads as it did. -/
def safePlaysSpec : ChangeSpec := { name := "safePlays", fn := fun _ => fun
  | [d1, d2, d3] => { results := [.lit (.bool true)], args := [d1, d2, d3] }
  | _ => none }
def safePlaysRow : OpenClaim := { program := "ytegolgkagdlocaa", sum := "f5f1a6a2a56f7603832343cb098e008b700286941a18c2127253e1dbc3f54281", func := "dolmen/dolmenlaw05.SafePlays", spec := "safePlays", inPlace := ["internal/bytealg.IndexByteString", "sync/atomic.AddInt64", "sync/atomic.LoadInt64"], unfollowed := true, recurses := true, apart := false }
def SafePlaysSaid : Prop := safePlaysRow.holds Try.pinned (OpenSpec.ofChange safePlaysSpec)

/-- ITS FALSE NEIGHBOUR: 'it returns false'. Refute it at one input. -/
def safePlaysWrong : ChangeSpec := { name := "safePlays", fn := fun _ => fun
  | [d1, d2, d3] => { results := [.lit (.bool false)], args := [d1, d2, d3] }
  | _ => none }
def SafePlaysWrongFalsely : Prop := safePlaysRow.holds Try.pinned (OpenSpec.ofChange safePlaysWrong)

/-- 'dolmenlaw05.SafeCut': WHATEVER THE INPUT: true; the input reads as it did. -/
def safeCutSpec : ChangeSpec := { name := "safeCut", fn := fun _ => fun
  | [d1, d2, d3, d4, d5] => { results := [.lit (.bool true)], args := [d1, d2, d3, d4, d5] }
  | _ => none }
def safeCutRow : OpenClaim := { program := "ytegolgkagdlocaa", sum := "f5f1a6a2a56f7603832343cb098e008b700286941a18c2127253e1dbc3f54281", func := "dolmen/dolmenlaw05.SafeCut", spec := "safeCut", inPlace := ["internal/bytealg.IndexByteString", "sync/atomic.AddInt64", "sync/atomic.LoadInt64"], unfollowed := true, recurses := true, apart := false }
def SafeCutSaid : Prop := safeCutRow.holds Try.pinned (OpenSpec.ofChange safeCutSpec)

/-- ITS FALSE NEIGHBOUR: 'it returns false'. Refute it at one input. -/
def safeCutWrong : ChangeSpec := { name := "safeCut", fn := fun _ => fun
  | [d1, d2, d3, d4, d5] => { results := [.lit (.bool false)], args := [d1, d2, d3, d4, d5] }
  | _ => none }
def SafeCutWrongFalsely : Prop := safeCutRow.holds Try.pinned (OpenSpec.ofChange safeCutWrong)

/- THE SECOND FORM. 'bulk': how many values and letters a reading holds, each counted each time it is reached (what is shared counts as often as it is met; a slice's spare places count too). A statement '..UptoSaid' is the law's where the arguments, and the package variables that the reading takes, are together of bulk at most 1048576: NARROWER than '..Said'. Prove '..Said' where nothing that the law and all that it calls make is longer than what came in: it says more and counts as full. Else prove '..UptoSaid'. A law counts once. -/
mutual
def uptoBulk {H : Type} : DataW H → Nat
  | .lit (.string bytes) => bytes.length + 1
  | .lit _ => 1
  | .nil => 1
  | .ptr d => uptoBulk d + 1
  | .slice elems spare => uptoBulkAll elems + uptoBulkAll spare + 1
  | .agg parts => uptoBulkAll parts + 1
  | .iface _ d => uptoBulk d + 1
  | .map entries => uptoBulkEntries entries + 1
  | .held _ => 1
def uptoBulkAll {H : Type} : List (DataW H) → Nat
  | [] => 0
  | d :: r => uptoBulk d + uptoBulkAll r
def uptoBulkEntries {H : Type} : List (Lit × DataW H) → Nat
  | [] => 0
  | x :: r => uptoBulkEntry x + uptoBulkEntries r
def uptoBulkEntry {H : Type} : Lit × DataW H → Nat
  | (.string bytes, d) => bytes.length + uptoBulk d + 1
  | (_, d) => uptoBulk d + 1
 end
def uptoSmall : (H : Type) → List (DataW H) → Bool := fun _ ds => decide (uptoBulkAll ds ≤ 1048576)
def OpenSpec.upto (s : _root_.Go.ChangeSpec) : _root_.Go.OpenSpec := { _root_.Go.OpenSpec.ofChange s with cond := some uptoSmall }

/-- 'dolmenlaw05.SafeRoom', WHERE WHAT IT READS IS OF BULK AT MOST 1048576: true; the input reads as it did. -/
def safeRoomUptoRow : OpenClaim := { program := "ytegolgkagdlocaa", sum := "f5f1a6a2a56f7603832343cb098e008b700286941a18c2127253e1dbc3f54281", func := "dolmen/dolmenlaw05.SafeRoom", spec := "safeRoom", inPlace := ["internal/bytealg.IndexByteString", "sync/atomic.AddInt64", "sync/atomic.LoadInt64"], unfollowed := true, recurses := true, apart := false, narrowed := true }
def SafeRoomUptoSaid : Prop := safeRoomUptoRow.holds Try.pinned (OpenSpec.upto safeRoomSpec)

/-- 'dolmenlaw05.SafeOps', WHERE WHAT IT READS IS OF BULK AT MOST 1048576: true; the input reads as it did. -/
def safeOpsUptoRow : OpenClaim := { program := "ytegolgkagdlocaa", sum := "f5f1a6a2a56f7603832343cb098e008b700286941a18c2127253e1dbc3f54281", func := "dolmen/dolmenlaw05.SafeOps", spec := "safeOps", inPlace := ["internal/bytealg.IndexByteString", "sync/atomic.AddInt64", "sync/atomic.LoadInt64"], unfollowed := true, recurses := true, apart := false, narrowed := true }
def SafeOpsUptoSaid : Prop := safeOpsUptoRow.holds Try.pinned (OpenSpec.upto safeOpsSpec)

/-- 'dolmenlaw05.SafeOver', WHERE WHAT IT READS IS OF BULK AT MOST 1048576: true; the input reads as it did. -/
def safeOverUptoRow : OpenClaim := { program := "ytegolgkagdlocaa", sum := "f5f1a6a2a56f7603832343cb098e008b700286941a18c2127253e1dbc3f54281", func := "dolmen/dolmenlaw05.SafeOver", spec := "safeOver", inPlace := ["internal/bytealg.IndexByteString", "sync/atomic.AddInt64", "sync/atomic.LoadInt64"], unfollowed := true, recurses := true, apart := false, narrowed := true }
def SafeOverUptoSaid : Prop := safeOverUptoRow.holds Try.pinned (OpenSpec.upto safeOverSpec)

/-- 'dolmenlaw05.SafeSweeps', WHERE WHAT IT READS IS OF BULK AT MOST 1048576: true; the input reads as it did. -/
def safeSweepsUptoRow : OpenClaim := { program := "ytegolgkagdlocaa", sum := "f5f1a6a2a56f7603832343cb098e008b700286941a18c2127253e1dbc3f54281", func := "dolmen/dolmenlaw05.SafeSweeps", spec := "safeSweeps", inPlace := ["internal/bytealg.IndexByteString", "sync/atomic.AddInt64", "sync/atomic.LoadInt64"], unfollowed := true, recurses := true, apart := false, narrowed := true }
def SafeSweepsUptoSaid : Prop := safeSweepsUptoRow.holds Try.pinned (OpenSpec.upto safeSweepsSpec)

/-- 'dolmenlaw05.SafePlays', WHERE WHAT IT READS IS OF BULK AT MOST 1048576: true; the input reads as it did. -/
def safePlaysUptoRow : OpenClaim := { program := "ytegolgkagdlocaa", sum := "f5f1a6a2a56f7603832343cb098e008b700286941a18c2127253e1dbc3f54281", func := "dolmen/dolmenlaw05.SafePlays", spec := "safePlays", inPlace := ["internal/bytealg.IndexByteString", "sync/atomic.AddInt64", "sync/atomic.LoadInt64"], unfollowed := true, recurses := true, apart := false, narrowed := true }
def SafePlaysUptoSaid : Prop := safePlaysUptoRow.holds Try.pinned (OpenSpec.upto safePlaysSpec)

/-- 'dolmenlaw05.SafeCut', WHERE WHAT IT READS IS OF BULK AT MOST 1048576: true; the input reads as it did. -/
def safeCutUptoRow : OpenClaim := { program := "ytegolgkagdlocaa", sum := "f5f1a6a2a56f7603832343cb098e008b700286941a18c2127253e1dbc3f54281", func := "dolmen/dolmenlaw05.SafeCut", spec := "safeCut", inPlace := ["internal/bytealg.IndexByteString", "sync/atomic.AddInt64", "sync/atomic.LoadInt64"], unfollowed := true, recurses := true, apart := false, narrowed := true }
def SafeCutUptoSaid : Prop := safeCutUptoRow.holds Try.pinned (OpenSpec.upto safeCutSpec)

end Rows
end Go.Proofs.Ytegolgkagdlocaa
