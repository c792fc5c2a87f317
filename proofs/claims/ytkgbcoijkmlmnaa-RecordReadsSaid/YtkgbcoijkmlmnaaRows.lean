/-
  No cell of these rows narrows 'for every input' (looked for: loops, veiled, ifaces, maps, wideKeys, modest, calm, conditions, laid).
  DERIVED. THE GIVEN ROWS OF THIS SEAT. 7 by the template 'for every input the law returns true; each argument reads behind the call as it read before'; 0 by the template 'total and deterministic' (their statements: YtkgbcoijkmlmnaaTotals.lean).
  GIVEN WITH THE SEED: the statements are not yours to turn. If you find one false, say at which input.
  Laid BY PROGRAM, IN A SANDBOX (cutbox-rows.mjs): the forced cells as the released guide's own fill.sh prints them over the translation 4e6cf59f2979fc35… (all of the seat's roots in one cut). By AI agents, Wed Nov 11 2026. No macro, syntax, notation, axiom, sorry.
-/
import Derived.Test.YtkgbcoijkmlmnaaChecked
import GoSem.Claim
import GoSem.ClaimJoined
import GoSem.ClaimMapViews
import Derived.JoinedTies
import Derived.KernelRfl
namespace Go.Proofs.Ytkgbcoijkmlmnaa
/- THE CELL 'sum', in the pinned program and in every row, IS THE sha256 OF THE DUMP (.gsa) THAT YtkgbcoijkmlmnaaProg.lean LOADS. Nothing in Lean hashes anything: it is a label: what it is worth is what the hold of that sum in a sandbox is worth. -/
noncomputable def Try.pinned : Pinned := { name := "ytkgbcoijkmlmnaa", sum := "4e6cf59f2979fc3576deca87c8506830bb620f8cc0a6794ef2b1c2321dcd72f7", checked := Try.checked }
namespace Rows
def none {H : Type} : Left H := { results := [], args := [] }

/-- 'staithelaw16.NetScript': WHATEVER THE INPUT: true; the input reads as it did. -/
def netScriptSpec : ChangeSpec := { name := "netScript", fn := fun _ => fun
  | [d] => { results := [.lit (.bool true)], args := [d] }
  | _ => none }
def netScriptRow : OpenClaim := { program := "ytkgbcoijkmlmnaa", sum := "4e6cf59f2979fc3576deca87c8506830bb620f8cc0a6794ef2b1c2321dcd72f7", func := "staithe/staithelaw16.NetScript", spec := "netScript", inPlace := ["sync/atomic.LoadInt64", "sync/atomic.CompareAndSwapInt64"], unfollowed := true, recurses := true, apart := false }
def NetScriptSaid : Prop := netScriptRow.holds Try.pinned (OpenSpec.ofChange netScriptSpec)

/-- ITS FALSE NEIGHBOUR: 'it returns false'. Refute it at one input. -/
def netScriptWrong : ChangeSpec := { name := "netScript", fn := fun _ => fun
  | [d] => { results := [.lit (.bool false)], args := [d] }
  | _ => none }
def NetScriptWrongFalsely : Prop := netScriptRow.holds Try.pinned (OpenSpec.ofChange netScriptWrong)

/-- 'staithelaw16.NetRoom': WHATEVER THE INPUT: true; the input reads as it did. -/
def netRoomSpec : ChangeSpec := { name := "netRoom", fn := fun _ => fun
  | [d1, d2] => { results := [.lit (.bool true)], args := [d1, d2] }
  | _ => none }
def netRoomRow : OpenClaim := { program := "ytkgbcoijkmlmnaa", sum := "4e6cf59f2979fc3576deca87c8506830bb620f8cc0a6794ef2b1c2321dcd72f7", func := "staithe/staithelaw16.NetRoom", spec := "netRoom", inPlace := ["sync/atomic.LoadInt64", "sync/atomic.CompareAndSwapInt64"], unfollowed := true, recurses := true, apart := false }
def NetRoomSaid : Prop := netRoomRow.holds Try.pinned (OpenSpec.ofChange netRoomSpec)

/-- ITS FALSE NEIGHBOUR: 'it returns false'. Refute it at one input. -/
def netRoomWrong : ChangeSpec := { name := "netRoom", fn := fun _ => fun
  | [d1, d2] => { results := [.lit (.bool false)], args := [d1, d2] }
  | _ => none }
def NetRoomWrongFalsely : Prop := netRoomRow.holds Try.pinned (OpenSpec.ofChange netRoomWrong)

/-- 'staithelaw16.NetNone': WHATEVER THE INPUT: true; the input reads as it did. -/
def netNoneSpec : ChangeSpec := { name := "netNone", fn := fun _ => fun
  | [d] => { results := [.lit (.bool true)], args := [d] }
  | _ => none }
def netNoneRow : OpenClaim := { program := "ytkgbcoijkmlmnaa", sum := "4e6cf59f2979fc3576deca87c8506830bb620f8cc0a6794ef2b1c2321dcd72f7", func := "staithe/staithelaw16.NetNone", spec := "netNone", inPlace := ["sync/atomic.LoadInt64", "sync/atomic.CompareAndSwapInt64"], unfollowed := true, recurses := true, apart := false }
def NetNoneSaid : Prop := netNoneRow.holds Try.pinned (OpenSpec.ofChange netNoneSpec)

/-- ITS FALSE NEIGHBOUR: 'it returns false'. Refute it at one input. -/
def netNoneWrong : ChangeSpec := { name := "netNone", fn := fun _ => fun
  | [d] => { results := [.lit (.bool false)], args := [d] }
  | _ => none }
def NetNoneWrongFalsely : Prop := netNoneRow.holds Try.pinned (OpenSpec.ofChange netNoneWrong)

/-- 'staithelaw15.RecordReads': WHATEVER THE INPUT: true; the input reads as it did. -/
def recordReadsSpec : ChangeSpec := { name := "recordReads", fn := fun _ => fun
  | [d] => { results := [.lit (.bool true)], args := [d] }
  | _ => none }
def recordReadsRow : OpenClaim := { program := "ytkgbcoijkmlmnaa", sum := "4e6cf59f2979fc3576deca87c8506830bb620f8cc0a6794ef2b1c2321dcd72f7", func := "staithe/staithelaw15.RecordReads", spec := "recordReads", unfollowed := true, recurses := true, apart := false }
def RecordReadsSaid : Prop := recordReadsRow.holds Try.pinned (OpenSpec.ofChange recordReadsSpec)

/-- ITS FALSE NEIGHBOUR: 'it returns false'. Refute it at one input. -/
def recordReadsWrong : ChangeSpec := { name := "recordReads", fn := fun _ => fun
  | [d] => { results := [.lit (.bool false)], args := [d] }
  | _ => none }
def RecordReadsWrongFalsely : Prop := recordReadsRow.holds Try.pinned (OpenSpec.ofChange recordReadsWrong)

/-- 'staithelaw15.RecordWhole': WHATEVER THE INPUT: true; the input reads as it did. -/
def recordWholeSpec : ChangeSpec := { name := "recordWhole", fn := fun _ => fun
  | [d1, d2] => { results := [.lit (.bool true)], args := [d1, d2] }
  | _ => none }
def recordWholeRow : OpenClaim := { program := "ytkgbcoijkmlmnaa", sum := "4e6cf59f2979fc3576deca87c8506830bb620f8cc0a6794ef2b1c2321dcd72f7", func := "staithe/staithelaw15.RecordWhole", spec := "recordWhole", unfollowed := true, recurses := true, apart := false }
def RecordWholeSaid : Prop := recordWholeRow.holds Try.pinned (OpenSpec.ofChange recordWholeSpec)

/-- ITS FALSE NEIGHBOUR: 'it returns false'. Refute it at one input. -/
def recordWholeWrong : ChangeSpec := { name := "recordWhole", fn := fun _ => fun
  | [d1, d2] => { results := [.lit (.bool false)], args := [d1, d2] }
  | _ => none }
def RecordWholeWrongFalsely : Prop := recordWholeRow.holds Try.pinned (OpenSpec.ofChange recordWholeWrong)

/-- 'staithelaw15.RecordLays': WHATEVER THE INPUT: true; the input reads as it did. -/
def recordLaysSpec : ChangeSpec := { name := "recordLays", fn := fun _ => fun
  | [d] => { results := [.lit (.bool true)], args := [d] }
  | _ => none }
def recordLaysRow : OpenClaim := { program := "ytkgbcoijkmlmnaa", sum := "4e6cf59f2979fc3576deca87c8506830bb620f8cc0a6794ef2b1c2321dcd72f7", func := "staithe/staithelaw15.RecordLays", spec := "recordLays", unfollowed := true, recurses := true, apart := false }
def RecordLaysSaid : Prop := recordLaysRow.holds Try.pinned (OpenSpec.ofChange recordLaysSpec)

/-- ITS FALSE NEIGHBOUR: 'it returns false'. Refute it at one input. -/
def recordLaysWrong : ChangeSpec := { name := "recordLays", fn := fun _ => fun
  | [d] => { results := [.lit (.bool false)], args := [d] }
  | _ => none }
def RecordLaysWrongFalsely : Prop := recordLaysRow.holds Try.pinned (OpenSpec.ofChange recordLaysWrong)

/-- 'staithelaw15.RecordSames': WHATEVER THE INPUT: true; the input reads as it did. -/
def recordSamesSpec : ChangeSpec := { name := "recordSames", fn := fun _ => fun
  | [d1, d2] => { results := [.lit (.bool true)], args := [d1, d2] }
  | _ => none }
def recordSamesRow : OpenClaim := { program := "ytkgbcoijkmlmnaa", sum := "4e6cf59f2979fc3576deca87c8506830bb620f8cc0a6794ef2b1c2321dcd72f7", func := "staithe/staithelaw15.RecordSames", spec := "recordSames", unfollowed := true, recurses := true, apart := false }
def RecordSamesSaid : Prop := recordSamesRow.holds Try.pinned (OpenSpec.ofChange recordSamesSpec)

/-- ITS FALSE NEIGHBOUR: 'it returns false'. Refute it at one input. -/
def recordSamesWrong : ChangeSpec := { name := "recordSames", fn := fun _ => fun
  | [d1, d2] => { results := [.lit (.bool false)], args := [d1, d2] }
  | _ => none }
def RecordSamesWrongFalsely : Prop := recordSamesRow.holds Try.pinned (OpenSpec.ofChange recordSamesWrong)

/- THE SECOND FORM. 'bulk': how many values and letters a reading holds, each counted each time it is reached (what is shared counts as often as it is met; a slice's spare places count too). A statement '..UptoSaid' is the law's where the arguments, and the package variables that the reading takes, are together of bulk at most 1048576: NARROWER than '..Said'. Prove '..Said' where nothing that the law and all that it calls make is longer than what came in: it says more and counts as full. Else prove '..UptoSaid'. A law counts once. -/
mutual
def uptoBulk {H : Type} : DataW H → Nat
  | .lit (.string bytes) => bytes.length + 1
  | .lit _ => 1
  | .nil => 1
  | .ptr d => uptoBulk d + 1
  | .slice elems spare => uptoBulkAll elems + uptoBulkAll spare + 1
  | .agg parts => uptoBulkAll parts + 1
  | .iface _ d => uptoBulk d + 1
  | .map entries => uptoBulkEntries entries + 1
  | .held _ => 1
def uptoBulkAll {H : Type} : List (DataW H) → Nat
  | [] => 0
  | d :: r => uptoBulk d + uptoBulkAll r
def uptoBulkEntries {H : Type} : List (Lit × DataW H) → Nat
  | [] => 0
  | x :: r => uptoBulkEntry x + uptoBulkEntries r
def uptoBulkEntry {H : Type} : Lit × DataW H → Nat
  | (.string bytes, d) => bytes.length + uptoBulk d + 1
  | (_, d) => uptoBulk d + 1
 end
def uptoSmall : (H : Type) → List (DataW H) → Bool := fun _ ds => decide (uptoBulkAll ds ≤ 1048576)
def OpenSpec.upto (s : _root_.Go.ChangeSpec) : _root_.Go.OpenSpec := { _root_.Go.OpenSpec.ofChange s with cond := some uptoSmall }

/-- 'staithelaw16.NetScript', WHERE WHAT IT READS IS OF BULK AT MOST 1048576: true; the input reads as it did. -/
def netScriptUptoRow : OpenClaim := { program := "ytkgbcoijkmlmnaa", sum := "4e6cf59f2979fc3576deca87c8506830bb620f8cc0a6794ef2b1c2321dcd72f7", func := "staithe/staithelaw16.NetScript", spec := "netScript", inPlace := ["sync/atomic.LoadInt64", "sync/atomic.CompareAndSwapInt64"], unfollowed := true, recurses := true, apart := false, narrowed := true }
def NetScriptUptoSaid : Prop := netScriptUptoRow.holds Try.pinned (OpenSpec.upto netScriptSpec)

/-- 'staithelaw16.NetRoom', WHERE WHAT IT READS IS OF BULK AT MOST 1048576: true; the input reads as it did. -/
def netRoomUptoRow : OpenClaim := { program := "ytkgbcoijkmlmnaa", sum := "4e6cf59f2979fc3576deca87c8506830bb620f8cc0a6794ef2b1c2321dcd72f7", func := "staithe/staithelaw16.NetRoom", spec := "netRoom", inPlace := ["sync/atomic.LoadInt64", "sync/atomic.CompareAndSwapInt64"], unfollowed := true, recurses := true, apart := false, narrowed := true }
def NetRoomUptoSaid : Prop := netRoomUptoRow.holds Try.pinned (OpenSpec.upto netRoomSpec)

/-- 'staithelaw16.NetNone', WHERE WHAT IT READS IS OF BULK AT MOST 1048576: true; the input reads as it did. -/
def netNoneUptoRow : OpenClaim := { program := "ytkgbcoijkmlmnaa", sum := "4e6cf59f2979fc3576deca87c8506830bb620f8cc0a6794ef2b1c2321dcd72f7", func := "staithe/staithelaw16.NetNone", spec := "netNone", inPlace := ["sync/atomic.LoadInt64", "sync/atomic.CompareAndSwapInt64"], unfollowed := true, recurses := true, apart := false, narrowed := true }
def NetNoneUptoSaid : Prop := netNoneUptoRow.holds Try.pinned (OpenSpec.upto netNoneSpec)

/-- 'staithelaw15.RecordReads', WHERE WHAT IT READS IS OF BULK AT MOST 1048576: true; the input reads as it did. -/
def recordReadsUptoRow : OpenClaim := { program := "ytkgbcoijkmlmnaa", sum := "4e6cf59f2979fc3576deca87c8506830bb620f8cc0a6794ef2b1c2321dcd72f7", func := "staithe/staithelaw15.RecordReads", spec := "recordReads", unfollowed := true, recurses := true, apart := false, narrowed := true }
def RecordReadsUptoSaid : Prop := recordReadsUptoRow.holds Try.pinned (OpenSpec.upto recordReadsSpec)

/-- 'staithelaw15.RecordWhole', WHERE WHAT IT READS IS OF BULK AT MOST 1048576: true; the input reads as it did. -/
def recordWholeUptoRow : OpenClaim := { program := "ytkgbcoijkmlmnaa", sum := "4e6cf59f2979fc3576deca87c8506830bb620f8cc0a6794ef2b1c2321dcd72f7", func := "staithe/staithelaw15.RecordWhole", spec := "recordWhole", unfollowed := true, recurses := true, apart := false, narrowed := true }
def RecordWholeUptoSaid : Prop := recordWholeUptoRow.holds Try.pinned (OpenSpec.upto recordWholeSpec)

/-- 'staithelaw15.RecordLays', WHERE WHAT IT READS IS OF BULK AT MOST 1048576: true; the input reads as it did. -/
def recordLaysUptoRow : OpenClaim := { program := "ytkgbcoijkmlmnaa", sum := "4e6cf59f2979fc3576deca87c8506830bb620f8cc0a6794ef2b1c2321dcd72f7", func := "staithe/staithelaw15.RecordLays", spec := "recordLays", unfollowed := true, recurses := true, apart := false, narrowed := true }
def RecordLaysUptoSaid : Prop := recordLaysUptoRow.holds Try.pinned (OpenSpec.upto recordLaysSpec)

/-- 'staithelaw15.RecordSames', WHERE WHAT IT READS IS OF BULK AT MOST 1048576: true; the input reads as it did. -/
def recordSamesUptoRow : OpenClaim := { program := "ytkgbcoijkmlmnaa", sum := "4e6cf59f2979fc3576deca87c8506830bb620f8cc0a6794ef2b1c2321dcd72f7", func := "staithe/staithelaw15.RecordSames", spec := "recordSames", unfollowed := true, recurses := true, apart := false, narrowed := true }
def RecordSamesUptoSaid : Prop := recordSamesUptoRow.holds Try.pinned (OpenSpec.upto recordSamesSpec)

end Rows
end Go.Proofs.Ytkgbcoijkmlmnaa
