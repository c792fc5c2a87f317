/-
  No cell of these rows narrows 'for every input' (looked for: loops, veiled, ifaces, maps, wideKeys, modest, calm, conditions, laid).
  DERIVED. THE GIVEN ROWS OF THIS SEAT. 11 by the template 'for every input the law returns true; each argument reads behind the call as it read before'; 0 by the template 'total and deterministic' (their statements: YtckjgfbfjjiikaaTotals.lean).
  GIVEN WITH THE SEED: the statements are not yours to turn. If you find one false, say at which input.
  Laid BY PROGRAM, IN A SANDBOX (cutbox-rows.mjs): the forced cells as the released guide's own fill.sh prints them over the translation bbc72b0c8a2f3e57… (all of the seat's roots in one cut). By AI agents, Wed Nov 11 2026. No macro, syntax, notation, axiom, sorry.
-/
import Derived.Test.YtckjgfbfjjiikaaChecked
import GoSem.Claim
import GoSem.ClaimJoined
import GoSem.ClaimMapViews
import Derived.JoinedTies
import Derived.KernelRfl
namespace Go.Proofs.Ytckjgfbfjjiikaa
/- THE CELL 'sum', in the pinned program and in every row, IS THE sha256 OF THE DUMP (.gsa) THAT YtckjgfbfjjiikaaProg.lean LOADS. Nothing in Lean hashes anything: it is a label: what it is worth is what the hold of that sum in a sandbox is worth. -/
noncomputable def Try.pinned : Pinned := { name := "ytckjgfbfjjiikaa", sum := "bbc72b0c8a2f3e578684ab3acbd00549b2498b644d377a8c545e19f124649ff5", checked := Try.checked }
namespace Rows
def none {H : Type} : Left H := { results := [], args := [] }

/-- 'staithelaw12.JobMay': WHATEVER THE INPUT: true; the input reads as it did. -/
def jobMaySpec : ChangeSpec := { name := "jobMay", fn := fun _ => fun
  | [d] => { results := [.lit (.bool true)], args := [d] }
  | _ => none }
def jobMayRow : OpenClaim := { program := "ytckjgfbfjjiikaa", sum := "bbc72b0c8a2f3e578684ab3acbd00549b2498b644d377a8c545e19f124649ff5", func := "staithe/staithelaw12.JobMay", spec := "jobMay", unfollowed := true, recurses := true, plainKeys := false, apart := false }
def JobMaySaid : Prop := jobMayRow.holds Try.pinned (OpenSpec.ofChange jobMaySpec)

/-- ITS FALSE NEIGHBOUR: 'it returns false'. Refute it at one input. -/
def jobMayWrong : ChangeSpec := { name := "jobMay", fn := fun _ => fun
  | [d] => { results := [.lit (.bool false)], args := [d] }
  | _ => none }
def JobMayWrongFalsely : Prop := jobMayRow.holds Try.pinned (OpenSpec.ofChange jobMayWrong)

/-- 'staithelaw12.JobHomes': WHATEVER THE INPUT: true; the input reads as it did. -/
def jobHomesSpec : ChangeSpec := { name := "jobHomes", fn := fun _ => fun
  | [d1, d2, d3] => { results := [.lit (.bool true)], args := [d1, d2, d3] }
  | _ => none }
def jobHomesRow : OpenClaim := { program := "ytckjgfbfjjiikaa", sum := "bbc72b0c8a2f3e578684ab3acbd00549b2498b644d377a8c545e19f124649ff5", func := "staithe/staithelaw12.JobHomes", spec := "jobHomes", unfollowed := true, recurses := true, plainKeys := false, apart := false }
def JobHomesSaid : Prop := jobHomesRow.holds Try.pinned (OpenSpec.ofChange jobHomesSpec)

/-- ITS FALSE NEIGHBOUR: 'it returns false'. Refute it at one input. -/
def jobHomesWrong : ChangeSpec := { name := "jobHomes", fn := fun _ => fun
  | [d1, d2, d3] => { results := [.lit (.bool false)], args := [d1, d2, d3] }
  | _ => none }
def JobHomesWrongFalsely : Prop := jobHomesRow.holds Try.pinned (OpenSpec.ofChange jobHomesWrong)

/-- 'staithelaw12.JobEdges': WHATEVER THE INPUT: true; the input reads as it did. -/
def jobEdgesSpec : ChangeSpec := { name := "jobEdges", fn := fun _ => fun
  | [d1, d2] => { results := [.lit (.bool true)], args := [d1, d2] }
  | _ => none }
def jobEdgesRow : OpenClaim := { program := "ytckjgfbfjjiikaa", sum := "bbc72b0c8a2f3e578684ab3acbd00549b2498b644d377a8c545e19f124649ff5", func := "staithe/staithelaw12.JobEdges", spec := "jobEdges", unfollowed := true, recurses := true, plainKeys := false, apart := false }
def JobEdgesSaid : Prop := jobEdgesRow.holds Try.pinned (OpenSpec.ofChange jobEdgesSpec)

/-- ITS FALSE NEIGHBOUR: 'it returns false'. Refute it at one input. -/
def jobEdgesWrong : ChangeSpec := { name := "jobEdges", fn := fun _ => fun
  | [d1, d2] => { results := [.lit (.bool false)], args := [d1, d2] }
  | _ => none }
def JobEdgesWrongFalsely : Prop := jobEdgesRow.holds Try.pinned (OpenSpec.ofChange jobEdgesWrong)

/-- 'staithelaw18.StageScript': WHATEVER THE INPUT: true; the input reads as it did. -/
def stageScriptSpec : ChangeSpec := { name := "stageScript", fn := fun _ => fun
  | [d] => { results := [.lit (.bool true)], args := [d] }
  | _ => none }
def stageScriptRow : OpenClaim := { program := "ytckjgfbfjjiikaa", sum := "bbc72b0c8a2f3e578684ab3acbd00549b2498b644d377a8c545e19f124649ff5", func := "staithe/staithelaw18.StageScript", spec := "stageScript", plainKeys := false, apart := false }
def StageScriptSaid : Prop := stageScriptRow.holds Try.pinned (OpenSpec.ofChange stageScriptSpec)

/-- ITS FALSE NEIGHBOUR: 'it returns false'. Refute it at one input. -/
def stageScriptWrong : ChangeSpec := { name := "stageScript", fn := fun _ => fun
  | [d] => { results := [.lit (.bool false)], args := [d] }
  | _ => none }
def StageScriptWrongFalsely : Prop := stageScriptRow.holds Try.pinned (OpenSpec.ofChange stageScriptWrong)

/-- 'staithelaw18.StageApart': WHATEVER THE INPUT: true; the input reads as it did. -/
def stageApartSpec : ChangeSpec := { name := "stageApart", fn := fun _ => fun
  | [d1, d2, d3] => { results := [.lit (.bool true)], args := [d1, d2, d3] }
  | _ => none }
def stageApartRow : OpenClaim := { program := "ytckjgfbfjjiikaa", sum := "bbc72b0c8a2f3e578684ab3acbd00549b2498b644d377a8c545e19f124649ff5", func := "staithe/staithelaw18.StageApart", spec := "stageApart", plainKeys := false, apart := false }
def StageApartSaid : Prop := stageApartRow.holds Try.pinned (OpenSpec.ofChange stageApartSpec)

/-- ITS FALSE NEIGHBOUR: 'it returns false'. Refute it at one input. -/
def stageApartWrong : ChangeSpec := { name := "stageApart", fn := fun _ => fun
  | [d1, d2, d3] => { results := [.lit (.bool false)], args := [d1, d2, d3] }
  | _ => none }
def StageApartWrongFalsely : Prop := stageApartRow.holds Try.pinned (OpenSpec.ofChange stageApartWrong)

/-- 'staithelaw18.StageDrops': WHATEVER THE INPUT: true; the input reads as it did. -/
def stageDropsSpec : ChangeSpec := { name := "stageDrops", fn := fun _ => fun
  | [d1, d2] => { results := [.lit (.bool true)], args := [d1, d2] }
  | _ => none }
def stageDropsRow : OpenClaim := { program := "ytckjgfbfjjiikaa", sum := "bbc72b0c8a2f3e578684ab3acbd00549b2498b644d377a8c545e19f124649ff5", func := "staithe/staithelaw18.StageDrops", spec := "stageDrops", plainKeys := false, apart := false }
def StageDropsSaid : Prop := stageDropsRow.holds Try.pinned (OpenSpec.ofChange stageDropsSpec)

/-- ITS FALSE NEIGHBOUR: 'it returns false'. Refute it at one input. -/
def stageDropsWrong : ChangeSpec := { name := "stageDrops", fn := fun _ => fun
  | [d1, d2] => { results := [.lit (.bool false)], args := [d1, d2] }
  | _ => none }
def StageDropsWrongFalsely : Prop := stageDropsRow.holds Try.pinned (OpenSpec.ofChange stageDropsWrong)

/-- 'staithelaw18.StageNone': WHATEVER THE INPUT: true; the input reads as it did. -/
def stageNoneSpec : ChangeSpec := { name := "stageNone", fn := fun _ => fun
  | [d] => { results := [.lit (.bool true)], args := [d] }
  | _ => none }
def stageNoneRow : OpenClaim := { program := "ytckjgfbfjjiikaa", sum := "bbc72b0c8a2f3e578684ab3acbd00549b2498b644d377a8c545e19f124649ff5", func := "staithe/staithelaw18.StageNone", spec := "stageNone", plainKeys := false, apart := false }
def StageNoneSaid : Prop := stageNoneRow.holds Try.pinned (OpenSpec.ofChange stageNoneSpec)

/-- ITS FALSE NEIGHBOUR: 'it returns false'. Refute it at one input. -/
def stageNoneWrong : ChangeSpec := { name := "stageNone", fn := fun _ => fun
  | [d] => { results := [.lit (.bool false)], args := [d] }
  | _ => none }
def StageNoneWrongFalsely : Prop := stageNoneRow.holds Try.pinned (OpenSpec.ofChange stageNoneWrong)

/-- 'staithelaw18.StageOrder': WHATEVER THE INPUT: true; the input reads as it did. -/
def stageOrderSpec : ChangeSpec := { name := "stageOrder", fn := fun _ => fun
  | [d1, d2] => { results := [.lit (.bool true)], args := [d1, d2] }
  | _ => none }
def stageOrderRow : OpenClaim := { program := "ytckjgfbfjjiikaa", sum := "bbc72b0c8a2f3e578684ab3acbd00549b2498b644d377a8c545e19f124649ff5", func := "staithe/staithelaw18.StageOrder", spec := "stageOrder", plainKeys := false, apart := false }
def StageOrderSaid : Prop := stageOrderRow.holds Try.pinned (OpenSpec.ofChange stageOrderSpec)

/-- ITS FALSE NEIGHBOUR: 'it returns false'. Refute it at one input. -/
def stageOrderWrong : ChangeSpec := { name := "stageOrder", fn := fun _ => fun
  | [d1, d2] => { results := [.lit (.bool false)], args := [d1, d2] }
  | _ => none }
def StageOrderWrongFalsely : Prop := stageOrderRow.holds Try.pinned (OpenSpec.ofChange stageOrderWrong)

/-- 'staithelaw3.LazyOnce': WHATEVER THE INPUT: true; the input reads as it did. -/
def lazyOnceSpec : ChangeSpec := { name := "lazyOnce", fn := fun _ => fun
  | [d1, d2] => { results := [.lit (.bool true)], args := [d1, d2] }
  | _ => none }
def lazyOnceRow : OpenClaim := { program := "ytckjgfbfjjiikaa", sum := "bbc72b0c8a2f3e578684ab3acbd00549b2498b644d377a8c545e19f124649ff5", func := "staithe/staithelaw3.LazyOnce", spec := "lazyOnce", inPlace := ["sync/atomic.LoadUint32", "sync/atomic.StoreUint32", "(*internal/sync.Mutex).Lock", "internal/race.Disable", "sync/atomic.CompareAndSwapInt32", "internal/race.Enable", "internal/race.Acquire", "(*internal/sync.Mutex).lockSlow", "internal/sync.runtime_canSpin", "internal/sync.runtime_doSpin", "internal/sync.throw", "internal/sync.runtime_nanotime", "internal/sync.runtime_SemacquireMutex", "sync/atomic.AddInt32", "(*internal/sync.Mutex).Unlock", "internal/race.ReleaseMerge", "(*internal/sync.Mutex).unlockSlow", "internal/sync.fatal", "internal/sync.runtime_Semrelease"], unfollowed := true, recurses := true, plainKeys := false, apart := false }
def LazyOnceSaid : Prop := lazyOnceRow.holds Try.pinned (OpenSpec.ofChange lazyOnceSpec)

/-- ITS FALSE NEIGHBOUR: 'it returns false'. Refute it at one input. -/
def lazyOnceWrong : ChangeSpec := { name := "lazyOnce", fn := fun _ => fun
  | [d1, d2] => { results := [.lit (.bool false)], args := [d1, d2] }
  | _ => none }
def LazyOnceWrongFalsely : Prop := lazyOnceRow.holds Try.pinned (OpenSpec.ofChange lazyOnceWrong)

/-- 'staithelaw3.LazyApart': WHATEVER THE INPUT: true; the input reads as it did. -/
def lazyApartSpec : ChangeSpec := { name := "lazyApart", fn := fun _ => fun
  | [d1, d2] => { results := [.lit (.bool true)], args := [d1, d2] }
  | _ => none }
def lazyApartRow : OpenClaim := { program := "ytckjgfbfjjiikaa", sum := "bbc72b0c8a2f3e578684ab3acbd00549b2498b644d377a8c545e19f124649ff5", func := "staithe/staithelaw3.LazyApart", spec := "lazyApart", inPlace := ["sync/atomic.LoadUint32", "sync/atomic.StoreUint32", "(*internal/sync.Mutex).Lock", "internal/race.Disable", "sync/atomic.CompareAndSwapInt32", "internal/race.Enable", "internal/race.Acquire", "(*internal/sync.Mutex).lockSlow", "internal/sync.runtime_canSpin", "internal/sync.runtime_doSpin", "internal/sync.throw", "internal/sync.runtime_nanotime", "internal/sync.runtime_SemacquireMutex", "sync/atomic.AddInt32", "(*internal/sync.Mutex).Unlock", "internal/race.ReleaseMerge", "(*internal/sync.Mutex).unlockSlow", "internal/sync.fatal", "internal/sync.runtime_Semrelease"], unfollowed := true, recurses := true, plainKeys := false, apart := false }
def LazyApartSaid : Prop := lazyApartRow.holds Try.pinned (OpenSpec.ofChange lazyApartSpec)

/-- ITS FALSE NEIGHBOUR: 'it returns false'. Refute it at one input. -/
def lazyApartWrong : ChangeSpec := { name := "lazyApart", fn := fun _ => fun
  | [d1, d2] => { results := [.lit (.bool false)], args := [d1, d2] }
  | _ => none }
def LazyApartWrongFalsely : Prop := lazyApartRow.holds Try.pinned (OpenSpec.ofChange lazyApartWrong)

/-- 'staithelaw3.LazyLate': WHATEVER THE INPUT: true; the input reads as it did. -/
def lazyLateSpec : ChangeSpec := { name := "lazyLate", fn := fun _ => fun
  | [d1, d2, d3] => { results := [.lit (.bool true)], args := [d1, d2, d3] }
  | _ => none }
def lazyLateRow : OpenClaim := { program := "ytckjgfbfjjiikaa", sum := "bbc72b0c8a2f3e578684ab3acbd00549b2498b644d377a8c545e19f124649ff5", func := "staithe/staithelaw3.LazyLate", spec := "lazyLate", inPlace := ["sync/atomic.LoadUint32", "sync/atomic.StoreUint32", "(*internal/sync.Mutex).Lock", "internal/race.Disable", "sync/atomic.CompareAndSwapInt32", "internal/race.Enable", "internal/race.Acquire", "(*internal/sync.Mutex).lockSlow", "internal/sync.runtime_canSpin", "internal/sync.runtime_doSpin", "internal/sync.throw", "internal/sync.runtime_nanotime", "internal/sync.runtime_SemacquireMutex", "sync/atomic.AddInt32", "(*internal/sync.Mutex).Unlock", "internal/race.ReleaseMerge", "(*internal/sync.Mutex).unlockSlow", "internal/sync.fatal", "internal/sync.runtime_Semrelease"], unfollowed := true, recurses := true, plainKeys := false, apart := false }
def LazyLateSaid : Prop := lazyLateRow.holds Try.pinned (OpenSpec.ofChange lazyLateSpec)

/-- ITS FALSE NEIGHBOUR: 'it returns false'. Refute it at one input. -/
def lazyLateWrong : ChangeSpec := { name := "lazyLate", fn := fun _ => fun
  | [d1, d2, d3] => { results := [.lit (.bool false)], args := [d1, d2, d3] }
  | _ => none }
def LazyLateWrongFalsely : Prop := lazyLateRow.holds Try.pinned (OpenSpec.ofChange lazyLateWrong)

/- THE SECOND FORM. 'bulk': how many values and letters a reading holds, each counted each time it is reached (what is shared counts as often as it is met; a slice's spare places count too). A statement '..UptoSaid' is the law's where the arguments, and the package variables that the reading takes, are together of bulk at most 1048576: NARROWER than '..Said'. Prove '..Said' where nothing that the law and all that it calls make is longer than what came in: it says more and counts as full. Else prove '..UptoSaid'. A law counts once. -/
mutual
def uptoBulk {H : Type} : DataW H → Nat
  | .lit (.string bytes) => bytes.length + 1
  | .lit _ => 1
  | .nil => 1
  | .ptr d => uptoBulk d + 1
  | .slice elems spare => uptoBulkAll elems + uptoBulkAll spare + 1
  | .agg parts => uptoBulkAll parts + 1
  | .iface _ d => uptoBulk d + 1
  | .map entries => uptoBulkEntries entries + 1
  | .held _ => 1
def uptoBulkAll {H : Type} : List (DataW H) → Nat
  | [] => 0
  | d :: r => uptoBulk d + uptoBulkAll r
def uptoBulkEntries {H : Type} : List (Lit × DataW H) → Nat
  | [] => 0
  | x :: r => uptoBulkEntry x + uptoBulkEntries r
def uptoBulkEntry {H : Type} : Lit × DataW H → Nat
  | (.string bytes, d) => bytes.length + uptoBulk d + 1
  | (_, d) => uptoBulk d + 1
 end
def uptoSmall : (H : Type) → List (DataW H) → Bool := fun _ ds => decide (uptoBulkAll ds ≤ 1048576)
def OpenSpec.upto (s : _root_.Go.ChangeSpec) : _root_.Go.OpenSpec := { _root_.Go.OpenSpec.ofChange s with cond := some uptoSmall }

/-- 'staithelaw12.JobMay', WHERE WHAT IT READS IS OF BULK AT MOST 1048576: true; the input reads as it did. -/
def jobMayUptoRow : OpenClaim := { program := "ytckjgfbfjjiikaa", sum := "bbc72b0c8a2f3e578684ab3acbd00549b2498b644d377a8c545e19f124649ff5", func := "staithe/staithelaw12.JobMay", spec := "jobMay", unfollowed := true, recurses := true, plainKeys := false, apart := false, narrowed := true }
def JobMayUptoSaid : Prop := jobMayUptoRow.holds Try.pinned (OpenSpec.upto jobMaySpec)

/-- 'staithelaw12.JobHomes', WHERE WHAT IT READS IS OF BULK AT MOST 1048576: true; the input reads as it did. -/
def jobHomesUptoRow : OpenClaim := { program := "ytckjgfbfjjiikaa", sum := "bbc72b0c8a2f3e578684ab3acbd00549b2498b644d377a8c545e19f124649ff5", func := "staithe/staithelaw12.JobHomes", spec := "jobHomes", unfollowed := true, recurses := true, plainKeys := false, apart := false, narrowed := true }
def JobHomesUptoSaid : Prop := jobHomesUptoRow.holds Try.pinned (OpenSpec.upto jobHomesSpec)

/-- 'staithelaw12.JobEdges', WHERE WHAT IT READS IS OF BULK AT MOST 1048576: true; the input reads as it did. -/
def jobEdgesUptoRow : OpenClaim := { program := "ytckjgfbfjjiikaa", sum := "bbc72b0c8a2f3e578684ab3acbd00549b2498b644d377a8c545e19f124649ff5", func := "staithe/staithelaw12.JobEdges", spec := "jobEdges", unfollowed := true, recurses := true, plainKeys := false, apart := false, narrowed := true }
def JobEdgesUptoSaid : Prop := jobEdgesUptoRow.holds Try.pinned (OpenSpec.upto jobEdgesSpec)

/-- 'staithelaw18.StageScript', WHERE WHAT IT READS IS OF BULK AT MOST 1048576: true; the input reads as it did. -/
def stageScriptUptoRow : OpenClaim := { program := "ytckjgfbfjjiikaa", sum := "bbc72b0c8a2f3e578684ab3acbd00549b2498b644d377a8c545e19f124649ff5", func := "staithe/staithelaw18.StageScript", spec := "stageScript", plainKeys := false, apart := false, narrowed := true }
def StageScriptUptoSaid : Prop := stageScriptUptoRow.holds Try.pinned (OpenSpec.upto stageScriptSpec)

/-- 'staithelaw18.StageApart', WHERE WHAT IT READS IS OF BULK AT MOST 1048576: true; the input reads as it did. -/
def stageApartUptoRow : OpenClaim := { program := "ytckjgfbfjjiikaa", sum := "bbc72b0c8a2f3e578684ab3acbd00549b2498b644d377a8c545e19f124649ff5", func := "staithe/staithelaw18.StageApart", spec := "stageApart", plainKeys := false, apart := false, narrowed := true }
def StageApartUptoSaid : Prop := stageApartUptoRow.holds Try.pinned (OpenSpec.upto stageApartSpec)

/-- 'staithelaw18.StageDrops', WHERE WHAT IT READS IS OF BULK AT MOST 1048576: true; the input reads as it did. -/
def stageDropsUptoRow : OpenClaim := { program := "ytckjgfbfjjiikaa", sum := "bbc72b0c8a2f3e578684ab3acbd00549b2498b644d377a8c545e19f124649ff5", func := "staithe/staithelaw18.StageDrops", spec := "stageDrops", plainKeys := false, apart := false, narrowed := true }
def StageDropsUptoSaid : Prop := stageDropsUptoRow.holds Try.pinned (OpenSpec.upto stageDropsSpec)

/-- 'staithelaw18.StageNone', WHERE WHAT IT READS IS OF BULK AT MOST 1048576: true; the input reads as it did. -/
def stageNoneUptoRow : OpenClaim := { program := "ytckjgfbfjjiikaa", sum := "bbc72b0c8a2f3e578684ab3acbd00549b2498b644d377a8c545e19f124649ff5", func := "staithe/staithelaw18.StageNone", spec := "stageNone", plainKeys := false, apart := false, narrowed := true }
def StageNoneUptoSaid : Prop := stageNoneUptoRow.holds Try.pinned (OpenSpec.upto stageNoneSpec)

/-- 'staithelaw18.StageOrder', WHERE WHAT IT READS IS OF BULK AT MOST 1048576: true; the input reads as it did. -/
def stageOrderUptoRow : OpenClaim := { program := "ytckjgfbfjjiikaa", sum := "bbc72b0c8a2f3e578684ab3acbd00549b2498b644d377a8c545e19f124649ff5", func := "staithe/staithelaw18.StageOrder", spec := "stageOrder", plainKeys := false, apart := false, narrowed := true }
def StageOrderUptoSaid : Prop := stageOrderUptoRow.holds Try.pinned (OpenSpec.upto stageOrderSpec)

/-- 'staithelaw3.LazyOnce', WHERE WHAT IT READS IS OF BULK AT MOST 1048576: true; the input reads as it did. -/
def lazyOnceUptoRow : OpenClaim := { program := "ytckjgfbfjjiikaa", sum := "bbc72b0c8a2f3e578684ab3acbd00549b2498b644d377a8c545e19f124649ff5", func := "staithe/staithelaw3.LazyOnce", spec := "lazyOnce", inPlace := ["sync/atomic.LoadUint32", "sync/atomic.StoreUint32", "(*internal/sync.Mutex).Lock", "internal/race.Disable", "sync/atomic.CompareAndSwapInt32", "internal/race.Enable", "internal/race.Acquire", "(*internal/sync.Mutex).lockSlow", "internal/sync.runtime_canSpin", "internal/sync.runtime_doSpin", "internal/sync.throw", "internal/sync.runtime_nanotime", "internal/sync.runtime_SemacquireMutex", "sync/atomic.AddInt32", "(*internal/sync.Mutex).Unlock", "internal/race.ReleaseMerge", "(*internal/sync.Mutex).unlockSlow", "internal/sync.fatal", "internal/sync.runtime_Semrelease"], unfollowed := true, recurses := true, plainKeys := false, apart := false, narrowed := true }
def LazyOnceUptoSaid : Prop := lazyOnceUptoRow.holds Try.pinned (OpenSpec.upto lazyOnceSpec)

/-- 'staithelaw3.LazyApart', WHERE WHAT IT READS IS OF BULK AT MOST 1048576: true; the input reads as it did. -/
def lazyApartUptoRow : OpenClaim := { program := "ytckjgfbfjjiikaa", sum := "bbc72b0c8a2f3e578684ab3acbd00549b2498b644d377a8c545e19f124649ff5", func := "staithe/staithelaw3.LazyApart", spec := "lazyApart", inPlace := ["sync/atomic.LoadUint32", "sync/atomic.StoreUint32", "(*internal/sync.Mutex).Lock", "internal/race.Disable", "sync/atomic.CompareAndSwapInt32", "internal/race.Enable", "internal/race.Acquire", "(*internal/sync.Mutex).lockSlow", "internal/sync.runtime_canSpin", "internal/sync.runtime_doSpin", "internal/sync.throw", "internal/sync.runtime_nanotime", "internal/sync.runtime_SemacquireMutex", "sync/atomic.AddInt32", "(*internal/sync.Mutex).Unlock", "internal/race.ReleaseMerge", "(*internal/sync.Mutex).unlockSlow", "internal/sync.fatal", "internal/sync.runtime_Semrelease"], unfollowed := true, recurses := true, plainKeys := false, apart := false, narrowed := true }
def LazyApartUptoSaid : Prop := lazyApartUptoRow.holds Try.pinned (OpenSpec.upto lazyApartSpec)

/-- 'staithelaw3.LazyLate', WHERE WHAT IT READS IS OF BULK AT MOST 1048576: true; the input reads as it did. -/
def lazyLateUptoRow : OpenClaim := { program := "ytckjgfbfjjiikaa", sum := "bbc72b0c8a2f3e578684ab3acbd00549b2498b644d377a8c545e19f124649ff5", func := "staithe/staithelaw3.LazyLate", spec := "lazyLate", inPlace := ["sync/atomic.LoadUint32", "sync/atomic.StoreUint32", "(*internal/sync.Mutex).Lock", "internal/race.Disable", "sync/atomic.CompareAndSwapInt32", "internal/race.Enable", "internal/race.Acquire", "(*internal/sync.Mutex).lockSlow", "internal/sync.runtime_canSpin", "internal/sync.runtime_doSpin", "internal/sync.throw", "internal/sync.runtime_nanotime", "internal/sync.runtime_SemacquireMutex", "sync/atomic.AddInt32", "(*internal/sync.Mutex).Unlock", "internal/race.ReleaseMerge", "(*internal/sync.Mutex).unlockSlow", "internal/sync.fatal", "internal/sync.runtime_Semrelease"], unfollowed := true, recurses := true, plainKeys := false, apart := false, narrowed := true }
def LazyLateUptoSaid : Prop := lazyLateUptoRow.holds Try.pinned (OpenSpec.upto lazyLateSpec)

end Rows
end Go.Proofs.Ytckjgfbfjjiikaa
