/-
  No cell of these rows narrows 'for every input' (looked for: loops, veiled, ifaces, maps, wideKeys, modest, calm, conditions, laid).
  DERIVED. THE GIVEN ROWS OF THIS SEAT. 6 by the template 'for every input the law returns true; each argument reads behind the call as it read before'; 0 by the template 'total and deterministic' (their statements: YtbnhhlahbhjogaaTotals.lean).
  GIVEN WITH THE SEED: the statements are not yours to turn. If you find one false, say at which input.
  Laid BY PROGRAM, IN A SANDBOX (cutbox-rows.mjs): the forced cells as the released guide's own fill.sh prints them over the translation d2c5644d559929a3… (all of the seat's roots in one cut). By AI agents, Wed Nov 11 2026. No macro, syntax, notation, axiom, sorry.
-/
import Derived.Test.YtbnhhlahbhjogaaChecked
import GoSem.Claim
import GoSem.ClaimJoined
import GoSem.ClaimMapViews
import Derived.JoinedTies
import Derived.KernelRfl
namespace Go.Proofs.Ytbnhhlahbhjogaa
/- THE CELL 'sum', in the pinned program and in every row, IS THE sha256 OF THE DUMP (.gsa) THAT YtbnhhlahbhjogaaProg.lean LOADS. Nothing in Lean hashes anything: it is a label: what it is worth is what the hold of that sum in a sandbox is worth. -/
noncomputable def Try.pinned : Pinned := { name := "ytbnhhlahbhjogaa", sum := "d2c5644d559929a340f86078e19b41f050b2ccb5224c67a1b04a396677bf0035", checked := Try.checked }
namespace Rows
def none {H : Type} : Left H := { results := [], args := [] }

/-- 'staithelaw22.MasterCommits': WHATEVER THE INPUT: true; the input reads as it did. -/
def masterCommitsSpec : ChangeSpec := { name := "masterCommits", fn := fun _ => fun
  | [d1, d2] => { results := [.lit (.bool true)], args := [d1, d2] }
  | _ => none }
def masterCommitsRow : OpenClaim := { program := "ytbnhhlahbhjogaa", sum := "d2c5644d559929a340f86078e19b41f050b2ccb5224c67a1b04a396677bf0035", func := "staithe/staithelaw22.MasterCommits", spec := "masterCommits", inPlace := ["sync/atomic.LoadInt64", "sync/atomic.CompareAndSwapInt64"], unfollowed := true, recurses := true, apart := false }
def MasterCommitsSaid : Prop := masterCommitsRow.holds Try.pinned (OpenSpec.ofChange masterCommitsSpec)

/-- ITS FALSE NEIGHBOUR: 'it returns false'. Refute it at one input. -/
def masterCommitsWrong : ChangeSpec := { name := "masterCommits", fn := fun _ => fun
  | [d1, d2] => { results := [.lit (.bool false)], args := [d1, d2] }
  | _ => none }
def MasterCommitsWrongFalsely : Prop := masterCommitsRow.holds Try.pinned (OpenSpec.ofChange masterCommitsWrong)

/-- 'staithelaw22.MasterHellos': WHATEVER THE INPUT: true; the input reads as it did. -/
def masterHellosSpec : ChangeSpec := { name := "masterHellos", fn := fun _ => fun
  | [d1, d2, d3, d4, d5] => { results := [.lit (.bool true)], args := [d1, d2, d3, d4, d5] }
  | _ => none }
def masterHellosRow : OpenClaim := { program := "ytbnhhlahbhjogaa", sum := "d2c5644d559929a340f86078e19b41f050b2ccb5224c67a1b04a396677bf0035", func := "staithe/staithelaw22.MasterHellos", spec := "masterHellos", inPlace := ["sync/atomic.LoadInt64", "sync/atomic.CompareAndSwapInt64"], unfollowed := true, recurses := true, apart := false }
def MasterHellosSaid : Prop := masterHellosRow.holds Try.pinned (OpenSpec.ofChange masterHellosSpec)

/-- ITS FALSE NEIGHBOUR: 'it returns false'. Refute it at one input. -/
def masterHellosWrong : ChangeSpec := { name := "masterHellos", fn := fun _ => fun
  | [d1, d2, d3, d4, d5] => { results := [.lit (.bool false)], args := [d1, d2, d3, d4, d5] }
  | _ => none }
def MasterHellosWrongFalsely : Prop := masterHellosRow.holds Try.pinned (OpenSpec.ofChange masterHellosWrong)

/-- 'staithelaw22.MasterRuns': WHATEVER THE INPUT: true; the input reads as it did. -/
def masterRunsSpec : ChangeSpec := { name := "masterRuns", fn := fun _ => fun
  | [d1, d2] => { results := [.lit (.bool true)], args := [d1, d2] }
  | _ => none }
def masterRunsRow : OpenClaim := { program := "ytbnhhlahbhjogaa", sum := "d2c5644d559929a340f86078e19b41f050b2ccb5224c67a1b04a396677bf0035", func := "staithe/staithelaw22.MasterRuns", spec := "masterRuns", inPlace := ["sync/atomic.LoadInt64", "sync/atomic.CompareAndSwapInt64"], unfollowed := true, recurses := true, apart := false }
def MasterRunsSaid : Prop := masterRunsRow.holds Try.pinned (OpenSpec.ofChange masterRunsSpec)

/-- ITS FALSE NEIGHBOUR: 'it returns false'. Refute it at one input. -/
def masterRunsWrong : ChangeSpec := { name := "masterRuns", fn := fun _ => fun
  | [d1, d2] => { results := [.lit (.bool false)], args := [d1, d2] }
  | _ => none }
def MasterRunsWrongFalsely : Prop := masterRunsRow.holds Try.pinned (OpenSpec.ofChange masterRunsWrong)

/-- 'staithelaw22.MasterScript': WHATEVER THE INPUT: true; the input reads as it did. -/
def masterScriptSpec : ChangeSpec := { name := "masterScript", fn := fun _ => fun
  | [d1, d2, d3] => { results := [.lit (.bool true)], args := [d1, d2, d3] }
  | _ => none }
def masterScriptRow : OpenClaim := { program := "ytbnhhlahbhjogaa", sum := "d2c5644d559929a340f86078e19b41f050b2ccb5224c67a1b04a396677bf0035", func := "staithe/staithelaw22.MasterScript", spec := "masterScript", inPlace := ["sync/atomic.LoadInt64", "sync/atomic.CompareAndSwapInt64"], unfollowed := true, recurses := true, apart := false }
def MasterScriptSaid : Prop := masterScriptRow.holds Try.pinned (OpenSpec.ofChange masterScriptSpec)

/-- ITS FALSE NEIGHBOUR: 'it returns false'. Refute it at one input. -/
def masterScriptWrong : ChangeSpec := { name := "masterScript", fn := fun _ => fun
  | [d1, d2, d3] => { results := [.lit (.bool false)], args := [d1, d2, d3] }
  | _ => none }
def MasterScriptWrongFalsely : Prop := masterScriptRow.holds Try.pinned (OpenSpec.ofChange masterScriptWrong)

/-- 'staithelaw22.MasterKeeps': WHATEVER THE INPUT: true; the input reads as it did. -/
def masterKeepsSpec : ChangeSpec := { name := "masterKeeps", fn := fun _ => fun
  | [d1, d2] => { results := [.lit (.bool true)], args := [d1, d2] }
  | _ => none }
def masterKeepsRow : OpenClaim := { program := "ytbnhhlahbhjogaa", sum := "d2c5644d559929a340f86078e19b41f050b2ccb5224c67a1b04a396677bf0035", func := "staithe/staithelaw22.MasterKeeps", spec := "masterKeeps", inPlace := ["sync/atomic.LoadInt64", "sync/atomic.CompareAndSwapInt64"], unfollowed := true, recurses := true, apart := false }
def MasterKeepsSaid : Prop := masterKeepsRow.holds Try.pinned (OpenSpec.ofChange masterKeepsSpec)

/-- ITS FALSE NEIGHBOUR: 'it returns false'. Refute it at one input. -/
def masterKeepsWrong : ChangeSpec := { name := "masterKeeps", fn := fun _ => fun
  | [d1, d2] => { results := [.lit (.bool false)], args := [d1, d2] }
  | _ => none }
def MasterKeepsWrongFalsely : Prop := masterKeepsRow.holds Try.pinned (OpenSpec.ofChange masterKeepsWrong)

/-- 'staithelaw22.MasterNone': WHATEVER THE INPUT: true; the input reads as it did. -/
def masterNoneSpec : ChangeSpec := { name := "masterNone", fn := fun _ => fun
  | [d] => { results := [.lit (.bool true)], args := [d] }
  | _ => none }
def masterNoneRow : OpenClaim := { program := "ytbnhhlahbhjogaa", sum := "d2c5644d559929a340f86078e19b41f050b2ccb5224c67a1b04a396677bf0035", func := "staithe/staithelaw22.MasterNone", spec := "masterNone", inPlace := ["sync/atomic.LoadInt64", "sync/atomic.CompareAndSwapInt64"], unfollowed := true, recurses := true, apart := false }
def MasterNoneSaid : Prop := masterNoneRow.holds Try.pinned (OpenSpec.ofChange masterNoneSpec)

/-- ITS FALSE NEIGHBOUR: 'it returns false'. Refute it at one input. -/
def masterNoneWrong : ChangeSpec := { name := "masterNone", fn := fun _ => fun
  | [d] => { results := [.lit (.bool false)], args := [d] }
  | _ => none }
def MasterNoneWrongFalsely : Prop := masterNoneRow.holds Try.pinned (OpenSpec.ofChange masterNoneWrong)

/- THE SECOND FORM. 'bulk': how many values and letters a reading holds, each counted each time it is reached (what is shared counts as often as it is met; a slice's spare places count too). A statement '..UptoSaid' is the law's where the arguments, and the package variables that the reading takes, are together of bulk at most 1048576: NARROWER than '..Said'. Prove '..Said' where nothing that the law and all that it calls make is longer than what came in: it says more and counts as full. Else prove '..UptoSaid'. A law counts once. -/
mutual
def uptoBulk {H : Type} : DataW H → Nat
  | .lit (.string bytes) => bytes.length + 1
  | .lit _ => 1
  | .nil => 1
  | .ptr d => uptoBulk d + 1
  | .slice elems spare => uptoBulkAll elems + uptoBulkAll spare + 1
  | .agg parts => uptoBulkAll parts + 1
  | .iface _ d => uptoBulk d + 1
  | .map entries => uptoBulkEntries entries + 1
  | .held _ => 1
def uptoBulkAll {H : Type} : List (DataW H) → Nat
  | [] => 0
  | d :: r => uptoBulk d + uptoBulkAll r
def uptoBulkEntries {H : Type} : List (Lit × DataW H) → Nat
  | [] => 0
  | x :: r => uptoBulkEntry x + uptoBulkEntries r
def uptoBulkEntry {H : Type} : Lit × DataW H → Nat
  | (.string bytes, d) => bytes.length + uptoBulk d + 1
  | (_, d) => uptoBulk d + 1
 end
def uptoSmall : (H : Type) → List (DataW H) → Bool := fun _ ds => decide (uptoBulkAll ds ≤ 1048576)
def OpenSpec.upto (s : _root_.Go.ChangeSpec) : _root_.Go.OpenSpec := { _root_.Go.OpenSpec.ofChange s with cond := some uptoSmall }

/-- 'staithelaw22.MasterCommits', WHERE WHAT IT READS IS OF BULK AT MOST 1048576: true; the input reads as it did. -/
def masterCommitsUptoRow : OpenClaim := { program := "ytbnhhlahbhjogaa", sum := "d2c5644d559929a340f86078e19b41f050b2ccb5224c67a1b04a396677bf0035", func := "staithe/staithelaw22.MasterCommits", spec := "masterCommits", inPlace := ["sync/atomic.LoadInt64", "sync/atomic.CompareAndSwapInt64"], unfollowed := true, recurses := true, apart := false, narrowed := true }
def MasterCommitsUptoSaid : Prop := masterCommitsUptoRow.holds Try.pinned (OpenSpec.upto masterCommitsSpec)

/-- 'staithelaw22.MasterHellos', WHERE WHAT IT READS IS OF BULK AT MOST 1048576: true; the input reads as it did. -/
def masterHellosUptoRow : OpenClaim := { program := "ytbnhhlahbhjogaa", sum := "d2c5644d559929a340f86078e19b41f050b2ccb5224c67a1b04a396677bf0035", func := "staithe/staithelaw22.MasterHellos", spec := "masterHellos", inPlace := ["sync/atomic.LoadInt64", "sync/atomic.CompareAndSwapInt64"], unfollowed := true, recurses := true, apart := false, narrowed := true }
def MasterHellosUptoSaid : Prop := masterHellosUptoRow.holds Try.pinned (OpenSpec.upto masterHellosSpec)

/-- 'staithelaw22.MasterRuns', WHERE WHAT IT READS IS OF BULK AT MOST 1048576: true; the input reads as it did. -/
def masterRunsUptoRow : OpenClaim := { program := "ytbnhhlahbhjogaa", sum := "d2c5644d559929a340f86078e19b41f050b2ccb5224c67a1b04a396677bf0035", func := "staithe/staithelaw22.MasterRuns", spec := "masterRuns", inPlace := ["sync/atomic.LoadInt64", "sync/atomic.CompareAndSwapInt64"], unfollowed := true, recurses := true, apart := false, narrowed := true }
def MasterRunsUptoSaid : Prop := masterRunsUptoRow.holds Try.pinned (OpenSpec.upto masterRunsSpec)

/-- 'staithelaw22.MasterScript', WHERE WHAT IT READS IS OF BULK AT MOST 1048576: true; the input reads as it did. -/
def masterScriptUptoRow : OpenClaim := { program := "ytbnhhlahbhjogaa", sum := "d2c5644d559929a340f86078e19b41f050b2ccb5224c67a1b04a396677bf0035", func := "staithe/staithelaw22.MasterScript", spec := "masterScript", inPlace := ["sync/atomic.LoadInt64", "sync/atomic.CompareAndSwapInt64"], unfollowed := true, recurses := true, apart := false, narrowed := true }
def MasterScriptUptoSaid : Prop := masterScriptUptoRow.holds Try.pinned (OpenSpec.upto masterScriptSpec)

/-- 'staithelaw22.MasterKeeps', WHERE WHAT IT READS IS OF BULK AT MOST 1048576: true; the input reads as it did. -/
def masterKeepsUptoRow : OpenClaim := { program := "ytbnhhlahbhjogaa", sum := "d2c5644d559929a340f86078e19b41f050b2ccb5224c67a1b04a396677bf0035", func := "staithe/staithelaw22.MasterKeeps", spec := "masterKeeps", inPlace := ["sync/atomic.LoadInt64", "sync/atomic.CompareAndSwapInt64"], unfollowed := true, recurses := true, apart := false, narrowed := true }
def MasterKeepsUptoSaid : Prop := masterKeepsUptoRow.holds Try.pinned (OpenSpec.upto masterKeepsSpec)

/-- 'staithelaw22.MasterNone', WHERE WHAT IT READS IS OF BULK AT MOST 1048576: true; the input reads as it did. -/
def masterNoneUptoRow : OpenClaim := { program := "ytbnhhlahbhjogaa", sum := "d2c5644d559929a340f86078e19b41f050b2ccb5224c67a1b04a396677bf0035", func := "staithe/staithelaw22.MasterNone", spec := "masterNone", inPlace := ["sync/atomic.LoadInt64", "sync/atomic.CompareAndSwapInt64"], unfollowed := true, recurses := true, apart := false, narrowed := true }
def MasterNoneUptoSaid : Prop := masterNoneUptoRow.holds Try.pinned (OpenSpec.upto masterNoneSpec)

end Rows
end Go.Proofs.Ytbnhhlahbhjogaa
