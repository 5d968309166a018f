/-
  No cell of these rows narrows 'for every input' (looked for: loops, veiled, ifaces, maps, wideKeys, modest, calm, conditions, laid).
  DERIVED. THE GIVEN ROWS OF THIS SEAT. 12 by the template 'for every input the law returns true; each argument reads behind the call as it read before'; 0 by the template 'total and deterministic' (their statements: YtecpbcmpncgokaaGreatTotals.lean).
  GIVEN WITH THE SEED: the statements are not yours to turn. If you find one false, say at which input.
  Laid BY PROGRAM, IN A SANDBOX (cutbox-rows.mjs): the forced cells as the released guide's own fill.sh prints them over the translation 45269bee998385df… (all of the seat's roots in one cut). By AI agents, Wed Nov 11 2026. No macro, syntax, notation, axiom, sorry.
-/
import Derived.Test.YtecpbcmpncgokaaGreatChecked
import GoSem.Claim
import GoSem.ClaimJoined
import GoSem.ClaimMapViews
import Derived.JoinedTies
import Derived.KernelRfl
namespace Go.Proofs.YtecpbcmpncgokaaGreat
/- THE CELL 'sum', in the pinned program and in every row, IS THE sha256 OF THE DUMP (.gsa) THAT YtecpbcmpncgokaaGreatProg.lean LOADS. Nothing in Lean hashes anything: it is a label: what it is worth is what the hold of that sum in a sandbox is worth. -/
noncomputable def Tryz.pinned : Pinned := { name := "ytecpbcmpncgokaagreat", sum := "45269bee998385dfe10ecf76f75a9101a0bbc050f10d89b7c1d863586c166177", checked := Tryz.checked }
namespace Rows
def none {H : Type} : Left H := { results := [], args := [] }

/-- 'dolmenlaw10.StoreAnew': WHATEVER THE INPUT: true; the input reads as it did. -/
def storeAnewSpec : ChangeSpec := { name := "storeAnew", fn := fun _ => fun
  | [d1, d2] => { results := [.lit (.bool true)], args := [d1, d2] }
  | _ => none }
def storeAnewRow : OpenClaim := { program := "ytecpbcmpncgokaagreat", sum := "45269bee998385dfe10ecf76f75a9101a0bbc050f10d89b7c1d863586c166177", func := "dolmen/dolmenlaw10.StoreAnew", spec := "storeAnew", inPlace := ["internal/bytealg.IndexByteString", "sync/atomic.AddInt64", "sync/atomic.LoadInt64", "sync/atomic.LoadUint32", "(*internal/sync.Mutex).Lock", "internal/race.Disable", "sync/atomic.CompareAndSwapInt32", "internal/race.Enable", "internal/race.Acquire", "(*internal/sync.Mutex).lockSlow", "internal/sync.runtime_canSpin", "internal/sync.runtime_doSpin", "internal/sync.throw", "internal/sync.runtime_nanotime", "internal/sync.runtime_SemacquireMutex", "sync/atomic.AddInt32", "(*internal/sync.Mutex).Unlock", "internal/race.ReleaseMerge", "(*internal/sync.Mutex).unlockSlow", "internal/sync.fatal", "internal/sync.runtime_Semrelease", "sync/atomic.StoreUint32"], unfollowed := true, recurses := true, plainKeys := false, apart := false }
def StoreAnewSaid : Prop := storeAnewRow.holds Tryz.pinned (OpenSpec.ofChange storeAnewSpec)

/-- ITS FALSE NEIGHBOUR: 'it returns false'. Refute it at one input. -/
def storeAnewWrong : ChangeSpec := { name := "storeAnew", fn := fun _ => fun
  | [d1, d2] => { results := [.lit (.bool false)], args := [d1, d2] }
  | _ => none }
def StoreAnewWrongFalsely : Prop := storeAnewRow.holds Tryz.pinned (OpenSpec.ofChange storeAnewWrong)

/-- 'dolmenlaw10.StorePlays': WHATEVER THE INPUT: true; the input reads as it did. -/
def storePlaysSpec : ChangeSpec := { name := "storePlays", fn := fun _ => fun
  | [d1, d2, d3] => { results := [.lit (.bool true)], args := [d1, d2, d3] }
  | _ => none }
def storePlaysRow : OpenClaim := { program := "ytecpbcmpncgokaagreat", sum := "45269bee998385dfe10ecf76f75a9101a0bbc050f10d89b7c1d863586c166177", func := "dolmen/dolmenlaw10.StorePlays", spec := "storePlays", inPlace := ["internal/bytealg.IndexByteString", "sync/atomic.AddInt64", "sync/atomic.LoadInt64", "sync/atomic.LoadUint32", "(*internal/sync.Mutex).Lock", "internal/race.Disable", "sync/atomic.CompareAndSwapInt32", "internal/race.Enable", "internal/race.Acquire", "(*internal/sync.Mutex).lockSlow", "internal/sync.runtime_canSpin", "internal/sync.runtime_doSpin", "internal/sync.throw", "internal/sync.runtime_nanotime", "internal/sync.runtime_SemacquireMutex", "sync/atomic.AddInt32", "(*internal/sync.Mutex).Unlock", "internal/race.ReleaseMerge", "(*internal/sync.Mutex).unlockSlow", "internal/sync.fatal", "internal/sync.runtime_Semrelease", "sync/atomic.StoreUint32"], unfollowed := true, recurses := true, plainKeys := false, apart := false }
def StorePlaysSaid : Prop := storePlaysRow.holds Tryz.pinned (OpenSpec.ofChange storePlaysSpec)

/-- ITS FALSE NEIGHBOUR: 'it returns false'. Refute it at one input. -/
def storePlaysWrong : ChangeSpec := { name := "storePlays", fn := fun _ => fun
  | [d1, d2, d3] => { results := [.lit (.bool false)], args := [d1, d2, d3] }
  | _ => none }
def StorePlaysWrongFalsely : Prop := storePlaysRow.holds Tryz.pinned (OpenSpec.ofChange storePlaysWrong)

/-- 'dolmenlaw07.LooseSpoilt': WHATEVER THE INPUT: true; the input reads as it did. -/
def looseSpoiltSpec : ChangeSpec := { name := "looseSpoilt", fn := fun _ => fun
  | [d1, d2] => { results := [.lit (.bool true)], args := [d1, d2] }
  | _ => none }
def looseSpoiltRow : OpenClaim := { program := "ytecpbcmpncgokaagreat", sum := "45269bee998385dfe10ecf76f75a9101a0bbc050f10d89b7c1d863586c166177", func := "dolmen/dolmenlaw07.LooseSpoilt", spec := "looseSpoilt", inPlace := ["internal/bytealg.IndexByteString", "sync/atomic.AddInt64"], unfollowed := true, recurses := true, plainKeys := false, apart := false }
def LooseSpoiltSaid : Prop := looseSpoiltRow.holds Tryz.pinned (OpenSpec.ofChange looseSpoiltSpec)

/-- ITS FALSE NEIGHBOUR: 'it returns false'. Refute it at one input. -/
def looseSpoiltWrong : ChangeSpec := { name := "looseSpoilt", fn := fun _ => fun
  | [d1, d2] => { results := [.lit (.bool false)], args := [d1, d2] }
  | _ => none }
def LooseSpoiltWrongFalsely : Prop := looseSpoiltRow.holds Tryz.pinned (OpenSpec.ofChange looseSpoiltWrong)

/-- 'dolmenlaw07.LooseDrops': WHATEVER THE INPUT: true; the input reads as it did. -/
def looseDropsSpec : ChangeSpec := { name := "looseDrops", fn := fun _ => fun
  | [d1, d2] => { results := [.lit (.bool true)], args := [d1, d2] }
  | _ => none }
def looseDropsRow : OpenClaim := { program := "ytecpbcmpncgokaagreat", sum := "45269bee998385dfe10ecf76f75a9101a0bbc050f10d89b7c1d863586c166177", func := "dolmen/dolmenlaw07.LooseDrops", spec := "looseDrops", inPlace := ["internal/bytealg.IndexByteString", "sync/atomic.AddInt64"], unfollowed := true, recurses := true, plainKeys := false, apart := false }
def LooseDropsSaid : Prop := looseDropsRow.holds Tryz.pinned (OpenSpec.ofChange looseDropsSpec)

/-- ITS FALSE NEIGHBOUR: 'it returns false'. Refute it at one input. -/
def looseDropsWrong : ChangeSpec := { name := "looseDrops", fn := fun _ => fun
  | [d1, d2] => { results := [.lit (.bool false)], args := [d1, d2] }
  | _ => none }
def LooseDropsWrongFalsely : Prop := looseDropsRow.holds Tryz.pinned (OpenSpec.ofChange looseDropsWrong)

/-- 'dolmenlaw07.LooseHolds': WHATEVER THE INPUT: true; the input reads as it did. -/
def looseHoldsSpec : ChangeSpec := { name := "looseHolds", fn := fun _ => fun
  | [d] => { results := [.lit (.bool true)], args := [d] }
  | _ => none }
def looseHoldsRow : OpenClaim := { program := "ytecpbcmpncgokaagreat", sum := "45269bee998385dfe10ecf76f75a9101a0bbc050f10d89b7c1d863586c166177", func := "dolmen/dolmenlaw07.LooseHolds", spec := "looseHolds", inPlace := ["internal/bytealg.IndexByteString", "sync/atomic.AddInt64", "sync/atomic.LoadInt64"], unfollowed := true, recurses := true, plainKeys := false, apart := false }
def LooseHoldsSaid : Prop := looseHoldsRow.holds Tryz.pinned (OpenSpec.ofChange looseHoldsSpec)

/-- ITS FALSE NEIGHBOUR: 'it returns false'. Refute it at one input. -/
def looseHoldsWrong : ChangeSpec := { name := "looseHolds", fn := fun _ => fun
  | [d] => { results := [.lit (.bool false)], args := [d] }
  | _ => none }
def LooseHoldsWrongFalsely : Prop := looseHoldsRow.holds Tryz.pinned (OpenSpec.ofChange looseHoldsWrong)

/-- 'dolmenlaw07.LooseCut': WHATEVER THE INPUT: true; the input reads as it did. -/
def looseCutSpec : ChangeSpec := { name := "looseCut", fn := fun _ => fun
  | [d1, d2, d3] => { results := [.lit (.bool true)], args := [d1, d2, d3] }
  | _ => none }
def looseCutRow : OpenClaim := { program := "ytecpbcmpncgokaagreat", sum := "45269bee998385dfe10ecf76f75a9101a0bbc050f10d89b7c1d863586c166177", func := "dolmen/dolmenlaw07.LooseCut", spec := "looseCut", inPlace := ["internal/bytealg.IndexByteString", "sync/atomic.AddInt64"], unfollowed := true, recurses := true, plainKeys := false, apart := false }
def LooseCutSaid : Prop := looseCutRow.holds Tryz.pinned (OpenSpec.ofChange looseCutSpec)

/-- ITS FALSE NEIGHBOUR: 'it returns false'. Refute it at one input. -/
def looseCutWrong : ChangeSpec := { name := "looseCut", fn := fun _ => fun
  | [d1, d2, d3] => { results := [.lit (.bool false)], args := [d1, d2, d3] }
  | _ => none }
def LooseCutWrongFalsely : Prop := looseCutRow.holds Tryz.pinned (OpenSpec.ofChange looseCutWrong)

/-- 'dolmenlaw07.LoosePlays': WHATEVER THE INPUT: true; the input reads as it did. -/
def loosePlaysSpec : ChangeSpec := { name := "loosePlays", fn := fun _ => fun
  | [d1, d2, d3] => { results := [.lit (.bool true)], args := [d1, d2, d3] }
  | _ => none }
def loosePlaysRow : OpenClaim := { program := "ytecpbcmpncgokaagreat", sum := "45269bee998385dfe10ecf76f75a9101a0bbc050f10d89b7c1d863586c166177", func := "dolmen/dolmenlaw07.LoosePlays", spec := "loosePlays", inPlace := ["internal/bytealg.IndexByteString", "sync/atomic.AddInt64", "sync/atomic.LoadInt64"], unfollowed := true, recurses := true, plainKeys := false, apart := false }
def LoosePlaysSaid : Prop := loosePlaysRow.holds Tryz.pinned (OpenSpec.ofChange loosePlaysSpec)

/-- ITS FALSE NEIGHBOUR: 'it returns false'. Refute it at one input. -/
def loosePlaysWrong : ChangeSpec := { name := "loosePlays", fn := fun _ => fun
  | [d1, d2, d3] => { results := [.lit (.bool false)], args := [d1, d2, d3] }
  | _ => none }
def LoosePlaysWrongFalsely : Prop := loosePlaysRow.holds Tryz.pinned (OpenSpec.ofChange loosePlaysWrong)

/-- 'dolmenlaw10.StoreRepacks': WHATEVER THE INPUT: true; the input reads as it did. -/
def storeRepacksSpec : ChangeSpec := { name := "storeRepacks", fn := fun _ => fun
  | [d1, d2] => { results := [.lit (.bool true)], args := [d1, d2] }
  | _ => none }
def storeRepacksRow : OpenClaim := { program := "ytecpbcmpncgokaagreat", sum := "45269bee998385dfe10ecf76f75a9101a0bbc050f10d89b7c1d863586c166177", func := "dolmen/dolmenlaw10.StoreRepacks", spec := "storeRepacks", inPlace := ["internal/bytealg.IndexByteString", "sync/atomic.AddInt64", "sync/atomic.LoadInt64", "sync/atomic.LoadUint32", "(*internal/sync.Mutex).Lock", "internal/race.Disable", "sync/atomic.CompareAndSwapInt32", "internal/race.Enable", "internal/race.Acquire", "(*internal/sync.Mutex).lockSlow", "internal/sync.runtime_canSpin", "internal/sync.runtime_doSpin", "internal/sync.throw", "internal/sync.runtime_nanotime", "internal/sync.runtime_SemacquireMutex", "sync/atomic.AddInt32", "(*internal/sync.Mutex).Unlock", "internal/race.ReleaseMerge", "(*internal/sync.Mutex).unlockSlow", "internal/sync.fatal", "internal/sync.runtime_Semrelease", "sync/atomic.StoreUint32"], unfollowed := true, recurses := true, plainKeys := false, apart := false }
def StoreRepacksSaid : Prop := storeRepacksRow.holds Tryz.pinned (OpenSpec.ofChange storeRepacksSpec)

/-- ITS FALSE NEIGHBOUR: 'it returns false'. Refute it at one input. -/
def storeRepacksWrong : ChangeSpec := { name := "storeRepacks", fn := fun _ => fun
  | [d1, d2] => { results := [.lit (.bool false)], args := [d1, d2] }
  | _ => none }
def StoreRepacksWrongFalsely : Prop := storeRepacksRow.holds Tryz.pinned (OpenSpec.ofChange storeRepacksWrong)

/-- 'dolmenlaw10.StoreKinds': WHATEVER THE INPUT: true; the input reads as it did. -/
def storeKindsSpec : ChangeSpec := { name := "storeKinds", fn := fun _ => fun
  | [d1, d2] => { results := [.lit (.bool true)], args := [d1, d2] }
  | _ => none }
def storeKindsRow : OpenClaim := { program := "ytecpbcmpncgokaagreat", sum := "45269bee998385dfe10ecf76f75a9101a0bbc050f10d89b7c1d863586c166177", func := "dolmen/dolmenlaw10.StoreKinds", spec := "storeKinds", inPlace := ["internal/bytealg.IndexByteString", "sync/atomic.AddInt64", "sync/atomic.LoadInt64", "sync/atomic.LoadUint32", "(*internal/sync.Mutex).Lock", "internal/race.Disable", "sync/atomic.CompareAndSwapInt32", "internal/race.Enable", "internal/race.Acquire", "(*internal/sync.Mutex).lockSlow", "internal/sync.runtime_canSpin", "internal/sync.runtime_doSpin", "internal/sync.throw", "internal/sync.runtime_nanotime", "internal/sync.runtime_SemacquireMutex", "sync/atomic.AddInt32", "(*internal/sync.Mutex).Unlock", "internal/race.ReleaseMerge", "(*internal/sync.Mutex).unlockSlow", "internal/sync.fatal", "internal/sync.runtime_Semrelease", "sync/atomic.StoreUint32"], unfollowed := true, recurses := true, plainKeys := false, apart := false }
def StoreKindsSaid : Prop := storeKindsRow.holds Tryz.pinned (OpenSpec.ofChange storeKindsSpec)

/-- ITS FALSE NEIGHBOUR: 'it returns false'. Refute it at one input. -/
def storeKindsWrong : ChangeSpec := { name := "storeKinds", fn := fun _ => fun
  | [d1, d2] => { results := [.lit (.bool false)], args := [d1, d2] }
  | _ => none }
def StoreKindsWrongFalsely : Prop := storeKindsRow.holds Tryz.pinned (OpenSpec.ofChange storeKindsWrong)

/-- 'dolmenlaw10.StoreCut': WHATEVER THE INPUT: true; the input reads as it did. -/
def storeCutSpec : ChangeSpec := { name := "storeCut", fn := fun _ => fun
  | [d1, d2, d3, d4] => { results := [.lit (.bool true)], args := [d1, d2, d3, d4] }
  | _ => none }
def storeCutRow : OpenClaim := { program := "ytecpbcmpncgokaagreat", sum := "45269bee998385dfe10ecf76f75a9101a0bbc050f10d89b7c1d863586c166177", func := "dolmen/dolmenlaw10.StoreCut", spec := "storeCut", inPlace := ["internal/bytealg.IndexByteString", "sync/atomic.AddInt64", "sync/atomic.LoadInt64", "sync/atomic.LoadUint32", "(*internal/sync.Mutex).Lock", "internal/race.Disable", "sync/atomic.CompareAndSwapInt32", "internal/race.Enable", "internal/race.Acquire", "(*internal/sync.Mutex).lockSlow", "internal/sync.runtime_canSpin", "internal/sync.runtime_doSpin", "internal/sync.throw", "internal/sync.runtime_nanotime", "internal/sync.runtime_SemacquireMutex", "sync/atomic.AddInt32", "(*internal/sync.Mutex).Unlock", "internal/race.ReleaseMerge", "(*internal/sync.Mutex).unlockSlow", "internal/sync.fatal", "internal/sync.runtime_Semrelease", "sync/atomic.StoreUint32"], unfollowed := true, recurses := true, plainKeys := false, apart := false }
def StoreCutSaid : Prop := storeCutRow.holds Tryz.pinned (OpenSpec.ofChange storeCutSpec)

/-- ITS FALSE NEIGHBOUR: 'it returns false'. Refute it at one input. -/
def storeCutWrong : ChangeSpec := { name := "storeCut", fn := fun _ => fun
  | [d1, d2, d3, d4] => { results := [.lit (.bool false)], args := [d1, d2, d3, d4] }
  | _ => none }
def StoreCutWrongFalsely : Prop := storeCutRow.holds Tryz.pinned (OpenSpec.ofChange storeCutWrong)

/-- 'dolmenlaw10.StoreNone': WHATEVER THE INPUT: true; the input reads as it did. -/
def storeNoneSpec : ChangeSpec := { name := "storeNone", fn := fun _ => fun
  | [d] => { results := [.lit (.bool true)], args := [d] }
  | _ => none }
def storeNoneRow : OpenClaim := { program := "ytecpbcmpncgokaagreat", sum := "45269bee998385dfe10ecf76f75a9101a0bbc050f10d89b7c1d863586c166177", func := "dolmen/dolmenlaw10.StoreNone", spec := "storeNone", inPlace := ["internal/bytealg.IndexByteString", "sync/atomic.AddInt64", "sync/atomic.LoadInt64", "sync/atomic.LoadUint32", "(*internal/sync.Mutex).Lock", "internal/race.Disable", "sync/atomic.CompareAndSwapInt32", "internal/race.Enable", "internal/race.Acquire", "(*internal/sync.Mutex).lockSlow", "internal/sync.runtime_canSpin", "internal/sync.runtime_doSpin", "internal/sync.throw", "internal/sync.runtime_nanotime", "internal/sync.runtime_SemacquireMutex", "sync/atomic.AddInt32", "(*internal/sync.Mutex).Unlock", "internal/race.ReleaseMerge", "(*internal/sync.Mutex).unlockSlow", "internal/sync.fatal", "internal/sync.runtime_Semrelease", "sync/atomic.StoreUint32"], unfollowed := true, recurses := true, plainKeys := false, apart := false }
def StoreNoneSaid : Prop := storeNoneRow.holds Tryz.pinned (OpenSpec.ofChange storeNoneSpec)

/-- ITS FALSE NEIGHBOUR: 'it returns false'. Refute it at one input. -/
def storeNoneWrong : ChangeSpec := { name := "storeNone", fn := fun _ => fun
  | [d] => { results := [.lit (.bool false)], args := [d] }
  | _ => none }
def StoreNoneWrongFalsely : Prop := storeNoneRow.holds Tryz.pinned (OpenSpec.ofChange storeNoneWrong)

/-- 'dolmenlaw10.StoreRoom': WHATEVER THE INPUT: true; the input reads as it did. -/
def storeRoomSpec : ChangeSpec := { name := "storeRoom", fn := fun _ => fun
  | [d1, d2] => { results := [.lit (.bool true)], args := [d1, d2] }
  | _ => none }
def storeRoomRow : OpenClaim := { program := "ytecpbcmpncgokaagreat", sum := "45269bee998385dfe10ecf76f75a9101a0bbc050f10d89b7c1d863586c166177", func := "dolmen/dolmenlaw10.StoreRoom", spec := "storeRoom", inPlace := ["internal/bytealg.IndexByteString", "sync/atomic.AddInt64", "sync/atomic.LoadInt64", "sync/atomic.LoadUint32", "(*internal/sync.Mutex).Lock", "internal/race.Disable", "sync/atomic.CompareAndSwapInt32", "internal/race.Enable", "internal/race.Acquire", "(*internal/sync.Mutex).lockSlow", "internal/sync.runtime_canSpin", "internal/sync.runtime_doSpin", "internal/sync.throw", "internal/sync.runtime_nanotime", "internal/sync.runtime_SemacquireMutex", "sync/atomic.AddInt32", "(*internal/sync.Mutex).Unlock", "internal/race.ReleaseMerge", "(*internal/sync.Mutex).unlockSlow", "internal/sync.fatal", "internal/sync.runtime_Semrelease", "sync/atomic.StoreUint32"], unfollowed := true, recurses := true, plainKeys := false, apart := false }
def StoreRoomSaid : Prop := storeRoomRow.holds Tryz.pinned (OpenSpec.ofChange storeRoomSpec)

/-- ITS FALSE NEIGHBOUR: 'it returns false'. Refute it at one input. -/
def storeRoomWrong : ChangeSpec := { name := "storeRoom", fn := fun _ => fun
  | [d1, d2] => { results := [.lit (.bool false)], args := [d1, d2] }
  | _ => none }
def StoreRoomWrongFalsely : Prop := storeRoomRow.holds Tryz.pinned (OpenSpec.ofChange storeRoomWrong)

/- THE SECOND FORM. 'bulk': how many values and letters a reading holds, each counted each time it is reached (what is shared counts as often as it is met; a slice's spare places count too). A statement '..UptoSaid' is the law's where the arguments, and the package variables that the reading takes, are together of bulk at most 1048576: NARROWER than '..Said'. Prove '..Said' where nothing that the law and all that it calls make is longer than what came in: it says more and counts as full. Else prove '..UptoSaid'. A law counts once. -/
mutual
def uptoBulk {H : Type} : DataW H → Nat
  | .lit (.string bytes) => bytes.length + 1
  | .lit _ => 1
  | .nil => 1
  | .ptr d => uptoBulk d + 1
  | .slice elems spare => uptoBulkAll elems + uptoBulkAll spare + 1
  | .agg parts => uptoBulkAll parts + 1
  | .iface _ d => uptoBulk d + 1
  | .map entries => uptoBulkEntries entries + 1
  | .held _ => 1
def uptoBulkAll {H : Type} : List (DataW H) → Nat
  | [] => 0
  | d :: r => uptoBulk d + uptoBulkAll r
def uptoBulkEntries {H : Type} : List (Lit × DataW H) → Nat
  | [] => 0
  | x :: r => uptoBulkEntry x + uptoBulkEntries r
def uptoBulkEntry {H : Type} : Lit × DataW H → Nat
  | (.string bytes, d) => bytes.length + uptoBulk d + 1
  | (_, d) => uptoBulk d + 1
 end
def uptoSmall : (H : Type) → List (DataW H) → Bool := fun _ ds => decide (uptoBulkAll ds ≤ 1048576)
def OpenSpec.upto (s : _root_.Go.ChangeSpec) : _root_.Go.OpenSpec := { _root_.Go.OpenSpec.ofChange s with cond := some uptoSmall }

/-- 'dolmenlaw10.StoreAnew', WHERE WHAT IT READS IS OF BULK AT MOST 1048576: true; the input reads as it did. -/
def storeAnewUptoRow : OpenClaim := { program := "ytecpbcmpncgokaagreat", sum := "45269bee998385dfe10ecf76f75a9101a0bbc050f10d89b7c1d863586c166177", func := "dolmen/dolmenlaw10.StoreAnew", spec := "storeAnew", inPlace := ["internal/bytealg.IndexByteString", "sync/atomic.AddInt64", "sync/atomic.LoadInt64", "sync/atomic.LoadUint32", "(*internal/sync.Mutex).Lock", "internal/race.Disable", "sync/atomic.CompareAndSwapInt32", "internal/race.Enable", "internal/race.Acquire", "(*internal/sync.Mutex).lockSlow", "internal/sync.runtime_canSpin", "internal/sync.runtime_doSpin", "internal/sync.throw", "internal/sync.runtime_nanotime", "internal/sync.runtime_SemacquireMutex", "sync/atomic.AddInt32", "(*internal/sync.Mutex).Unlock", "internal/race.ReleaseMerge", "(*internal/sync.Mutex).unlockSlow", "internal/sync.fatal", "internal/sync.runtime_Semrelease", "sync/atomic.StoreUint32"], unfollowed := true, recurses := true, plainKeys := false, apart := false, narrowed := true }
def StoreAnewUptoSaid : Prop := storeAnewUptoRow.holds Tryz.pinned (OpenSpec.upto storeAnewSpec)

/-- 'dolmenlaw10.StorePlays', WHERE WHAT IT READS IS OF BULK AT MOST 1048576: true; the input reads as it did. -/
def storePlaysUptoRow : OpenClaim := { program := "ytecpbcmpncgokaagreat", sum := "45269bee998385dfe10ecf76f75a9101a0bbc050f10d89b7c1d863586c166177", func := "dolmen/dolmenlaw10.StorePlays", spec := "storePlays", inPlace := ["internal/bytealg.IndexByteString", "sync/atomic.AddInt64", "sync/atomic.LoadInt64", "sync/atomic.LoadUint32", "(*internal/sync.Mutex).Lock", "internal/race.Disable", "sync/atomic.CompareAndSwapInt32", "internal/race.Enable", "internal/race.Acquire", "(*internal/sync.Mutex).lockSlow", "internal/sync.runtime_canSpin", "internal/sync.runtime_doSpin", "internal/sync.throw", "internal/sync.runtime_nanotime", "internal/sync.runtime_SemacquireMutex", "sync/atomic.AddInt32", "(*internal/sync.Mutex).Unlock", "internal/race.ReleaseMerge", "(*internal/sync.Mutex).unlockSlow", "internal/sync.fatal", "internal/sync.runtime_Semrelease", "sync/atomic.StoreUint32"], unfollowed := true, recurses := true, plainKeys := false, apart := false, narrowed := true }
def StorePlaysUptoSaid : Prop := storePlaysUptoRow.holds Tryz.pinned (OpenSpec.upto storePlaysSpec)

/-- 'dolmenlaw07.LooseSpoilt', WHERE WHAT IT READS IS OF BULK AT MOST 1048576: true; the input reads as it did. -/
def looseSpoiltUptoRow : OpenClaim := { program := "ytecpbcmpncgokaagreat", sum := "45269bee998385dfe10ecf76f75a9101a0bbc050f10d89b7c1d863586c166177", func := "dolmen/dolmenlaw07.LooseSpoilt", spec := "looseSpoilt", inPlace := ["internal/bytealg.IndexByteString", "sync/atomic.AddInt64"], unfollowed := true, recurses := true, plainKeys := false, apart := false, narrowed := true }
def LooseSpoiltUptoSaid : Prop := looseSpoiltUptoRow.holds Tryz.pinned (OpenSpec.upto looseSpoiltSpec)

/-- 'dolmenlaw07.LooseDrops', WHERE WHAT IT READS IS OF BULK AT MOST 1048576: true; the input reads as it did. -/
def looseDropsUptoRow : OpenClaim := { program := "ytecpbcmpncgokaagreat", sum := "45269bee998385dfe10ecf76f75a9101a0bbc050f10d89b7c1d863586c166177", func := "dolmen/dolmenlaw07.LooseDrops", spec := "looseDrops", inPlace := ["internal/bytealg.IndexByteString", "sync/atomic.AddInt64"], unfollowed := true, recurses := true, plainKeys := false, apart := false, narrowed := true }
def LooseDropsUptoSaid : Prop := looseDropsUptoRow.holds Tryz.pinned (OpenSpec.upto looseDropsSpec)

/-- 'dolmenlaw07.LooseHolds', WHERE WHAT IT READS IS OF BULK AT MOST 1048576: true; the input reads as it did. -/
def looseHoldsUptoRow : OpenClaim := { program := "ytecpbcmpncgokaagreat", sum := "45269bee998385dfe10ecf76f75a9101a0bbc050f10d89b7c1d863586c166177", func := "dolmen/dolmenlaw07.LooseHolds", spec := "looseHolds", inPlace := ["internal/bytealg.IndexByteString", "sync/atomic.AddInt64", "sync/atomic.LoadInt64"], unfollowed := true, recurses := true, plainKeys := false, apart := false, narrowed := true }
def LooseHoldsUptoSaid : Prop := looseHoldsUptoRow.holds Tryz.pinned (OpenSpec.upto looseHoldsSpec)

/-- 'dolmenlaw07.LooseCut', WHERE WHAT IT READS IS OF BULK AT MOST 1048576: true; the input reads as it did. -/
def looseCutUptoRow : OpenClaim := { program := "ytecpbcmpncgokaagreat", sum := "45269bee998385dfe10ecf76f75a9101a0bbc050f10d89b7c1d863586c166177", func := "dolmen/dolmenlaw07.LooseCut", spec := "looseCut", inPlace := ["internal/bytealg.IndexByteString", "sync/atomic.AddInt64"], unfollowed := true, recurses := true, plainKeys := false, apart := false, narrowed := true }
def LooseCutUptoSaid : Prop := looseCutUptoRow.holds Tryz.pinned (OpenSpec.upto looseCutSpec)

/-- 'dolmenlaw07.LoosePlays', WHERE WHAT IT READS IS OF BULK AT MOST 1048576: true; the input reads as it did. -/
def loosePlaysUptoRow : OpenClaim := { program := "ytecpbcmpncgokaagreat", sum := "45269bee998385dfe10ecf76f75a9101a0bbc050f10d89b7c1d863586c166177", func := "dolmen/dolmenlaw07.LoosePlays", spec := "loosePlays", inPlace := ["internal/bytealg.IndexByteString", "sync/atomic.AddInt64", "sync/atomic.LoadInt64"], unfollowed := true, recurses := true, plainKeys := false, apart := false, narrowed := true }
def LoosePlaysUptoSaid : Prop := loosePlaysUptoRow.holds Tryz.pinned (OpenSpec.upto loosePlaysSpec)

/-- 'dolmenlaw10.StoreRepacks', WHERE WHAT IT READS IS OF BULK AT MOST 1048576: true; the input reads as it did. -/
def storeRepacksUptoRow : OpenClaim := { program := "ytecpbcmpncgokaagreat", sum := "45269bee998385dfe10ecf76f75a9101a0bbc050f10d89b7c1d863586c166177", func := "dolmen/dolmenlaw10.StoreRepacks", spec := "storeRepacks", inPlace := ["internal/bytealg.IndexByteString", "sync/atomic.AddInt64", "sync/atomic.LoadInt64", "sync/atomic.LoadUint32", "(*internal/sync.Mutex).Lock", "internal/race.Disable", "sync/atomic.CompareAndSwapInt32", "internal/race.Enable", "internal/race.Acquire", "(*internal/sync.Mutex).lockSlow", "internal/sync.runtime_canSpin", "internal/sync.runtime_doSpin", "internal/sync.throw", "internal/sync.runtime_nanotime", "internal/sync.runtime_SemacquireMutex", "sync/atomic.AddInt32", "(*internal/sync.Mutex).Unlock", "internal/race.ReleaseMerge", "(*internal/sync.Mutex).unlockSlow", "internal/sync.fatal", "internal/sync.runtime_Semrelease", "sync/atomic.StoreUint32"], unfollowed := true, recurses := true, plainKeys := false, apart := false, narrowed := true }
def StoreRepacksUptoSaid : Prop := storeRepacksUptoRow.holds Tryz.pinned (OpenSpec.upto storeRepacksSpec)

/-- 'dolmenlaw10.StoreKinds', WHERE WHAT IT READS IS OF BULK AT MOST 1048576: true; the input reads as it did. -/
def storeKindsUptoRow : OpenClaim := { program := "ytecpbcmpncgokaagreat", sum := "45269bee998385dfe10ecf76f75a9101a0bbc050f10d89b7c1d863586c166177", func := "dolmen/dolmenlaw10.StoreKinds", spec := "storeKinds", inPlace := ["internal/bytealg.IndexByteString", "sync/atomic.AddInt64", "sync/atomic.LoadInt64", "sync/atomic.LoadUint32", "(*internal/sync.Mutex).Lock", "internal/race.Disable", "sync/atomic.CompareAndSwapInt32", "internal/race.Enable", "internal/race.Acquire", "(*internal/sync.Mutex).lockSlow", "internal/sync.runtime_canSpin", "internal/sync.runtime_doSpin", "internal/sync.throw", "internal/sync.runtime_nanotime", "internal/sync.runtime_SemacquireMutex", "sync/atomic.AddInt32", "(*internal/sync.Mutex).Unlock", "internal/race.ReleaseMerge", "(*internal/sync.Mutex).unlockSlow", "internal/sync.fatal", "internal/sync.runtime_Semrelease", "sync/atomic.StoreUint32"], unfollowed := true, recurses := true, plainKeys := false, apart := false, narrowed := true }
def StoreKindsUptoSaid : Prop := storeKindsUptoRow.holds Tryz.pinned (OpenSpec.upto storeKindsSpec)

/-- 'dolmenlaw10.StoreCut', WHERE WHAT IT READS IS OF BULK AT MOST 1048576: true; the input reads as it did. -/
def storeCutUptoRow : OpenClaim := { program := "ytecpbcmpncgokaagreat", sum := "45269bee998385dfe10ecf76f75a9101a0bbc050f10d89b7c1d863586c166177", func := "dolmen/dolmenlaw10.StoreCut", spec := "storeCut", inPlace := ["internal/bytealg.IndexByteString", "sync/atomic.AddInt64", "sync/atomic.LoadInt64", "sync/atomic.LoadUint32", "(*internal/sync.Mutex).Lock", "internal/race.Disable", "sync/atomic.CompareAndSwapInt32", "internal/race.Enable", "internal/race.Acquire", "(*internal/sync.Mutex).lockSlow", "internal/sync.runtime_canSpin", "internal/sync.runtime_doSpin", "internal/sync.throw", "internal/sync.runtime_nanotime", "internal/sync.runtime_SemacquireMutex", "sync/atomic.AddInt32", "(*internal/sync.Mutex).Unlock", "internal/race.ReleaseMerge", "(*internal/sync.Mutex).unlockSlow", "internal/sync.fatal", "internal/sync.runtime_Semrelease", "sync/atomic.StoreUint32"], unfollowed := true, recurses := true, plainKeys := false, apart := false, narrowed := true }
def StoreCutUptoSaid : Prop := storeCutUptoRow.holds Tryz.pinned (OpenSpec.upto storeCutSpec)

/-- 'dolmenlaw10.StoreNone', WHERE WHAT IT READS IS OF BULK AT MOST 1048576: true; the input reads as it did. -/
def storeNoneUptoRow : OpenClaim := { program := "ytecpbcmpncgokaagreat", sum := "45269bee998385dfe10ecf76f75a9101a0bbc050f10d89b7c1d863586c166177", func := "dolmen/dolmenlaw10.StoreNone", spec := "storeNone", inPlace := ["internal/bytealg.IndexByteString", "sync/atomic.AddInt64", "sync/atomic.LoadInt64", "sync/atomic.LoadUint32", "(*internal/sync.Mutex).Lock", "internal/race.Disable", "sync/atomic.CompareAndSwapInt32", "internal/race.Enable", "internal/race.Acquire", "(*internal/sync.Mutex).lockSlow", "internal/sync.runtime_canSpin", "internal/sync.runtime_doSpin", "internal/sync.throw", "internal/sync.runtime_nanotime", "internal/sync.runtime_SemacquireMutex", "sync/atomic.AddInt32", "(*internal/sync.Mutex).Unlock", "internal/race.ReleaseMerge", "(*internal/sync.Mutex).unlockSlow", "internal/sync.fatal", "internal/sync.runtime_Semrelease", "sync/atomic.StoreUint32"], unfollowed := true, recurses := true, plainKeys := false, apart := false, narrowed := true }
def StoreNoneUptoSaid : Prop := storeNoneUptoRow.holds Tryz.pinned (OpenSpec.upto storeNoneSpec)

/-- 'dolmenlaw10.StoreRoom', WHERE WHAT IT READS IS OF BULK AT MOST 1048576: true; the input reads as it did. -/
def storeRoomUptoRow : OpenClaim := { program := "ytecpbcmpncgokaagreat", sum := "45269bee998385dfe10ecf76f75a9101a0bbc050f10d89b7c1d863586c166177", func := "dolmen/dolmenlaw10.StoreRoom", spec := "storeRoom", inPlace := ["internal/bytealg.IndexByteString", "sync/atomic.AddInt64", "sync/atomic.LoadInt64", "sync/atomic.LoadUint32", "(*internal/sync.Mutex).Lock", "internal/race.Disable", "sync/atomic.CompareAndSwapInt32", "internal/race.Enable", "internal/race.Acquire", "(*internal/sync.Mutex).lockSlow", "internal/sync.runtime_canSpin", "internal/sync.runtime_doSpin", "internal/sync.throw", "internal/sync.runtime_nanotime", "internal/sync.runtime_SemacquireMutex", "sync/atomic.AddInt32", "(*internal/sync.Mutex).Unlock", "internal/race.ReleaseMerge", "(*internal/sync.Mutex).unlockSlow", "internal/sync.fatal", "internal/sync.runtime_Semrelease", "sync/atomic.StoreUint32"], unfollowed := true, recurses := true, plainKeys := false, apart := false, narrowed := true }
def StoreRoomUptoSaid : Prop := storeRoomUptoRow.holds Tryz.pinned (OpenSpec.upto storeRoomSpec)

end Rows
end Go.Proofs.YtecpbcmpncgokaaGreat
