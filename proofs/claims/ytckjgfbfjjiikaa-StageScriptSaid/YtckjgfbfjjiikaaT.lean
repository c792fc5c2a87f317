/- The kinds of this seat's types. -/
import Derived.Test.YtckjgfbfjjiikaaU
set_option linter.unusedVariables false
set_option linter.unusedSimpArgs false
namespace Go.Proofs.Ytckjgfbfjjiikaa.T
open Go.RowKit Go.Proofs.YtckjgfbfjjiikaaW.PrintWords Go.Proofs.YtckjgfbfjjiikaaW.PrintLast Go.Proofs.YtckjgfbfjjiikaaW.PrintMore Go.Proofs.Ytckjgfbfjjiikaa.U
theorem open_5 : Opens Try.prog 5 (Kd.int .u8) (fun n => (Lit.int .u8 n).wf = true) := Opens.int Try.underlying5
theorem open_3 : Opens Try.prog 3 (Kd.int .i64) (fun n => (Lit.int .i64 n).wf = true) := Opens.int Try.underlying3
theorem open_9 : Opens Try.prog 9 Kd.string (fun s => s.size ≤ 9223372036854775807) := Opens.string Try.underlying9
/-- A pair. -/
structure PairD where
  key : ByteArray
  val : ByteArray
def kPair : Kd PairD := Kd.iso (Kd.pair Kd.string Kd.string) (fun x => (x.key, x.val))
def GPair (x : PairD) : Prop := x.key.size ≤ 9223372036854775807 ∧ x.val.size ≤ 9223372036854775807
theorem open_80 : Opens Try.prog 80 kPair GPair :=
  Opens.iso (Opens.struct Try.underlying80 (by kernel_rfl) (OpensF.cons (Opens.string Try.underlying9) rfl (by kernel_rfl) rfl (OpensF.one (Opens.string Try.underlying9) rfl (by kernel_rfl)))) _ (fun p => ⟨p.1, p.2⟩) (fun _ => rfl)
theorem kPair_open {w : World} {x : PairD} {cs : List Value} (h : kPair.K w x cs) : cs = [.string x.key, .string x.val] := by
  obtain ⟨_, _, rfl, rfl, rfl⟩ := h
  rfl
theorem kPair_mk (w : World) (x : PairD) : kPair.K w x [.string x.key, .string x.val] := ⟨[.string x.key], [.string x.val], rfl, rfl, rfl⟩
theorem kPair_mkM (w : World) (base : Nat) (ok : Nat → Prop) (x : PairD) : kPair.M w base ok x [.string x.key, .string x.val] := ⟨[.string x.key], [.string x.val], rfl, rfl, rfl⟩
end Go.Proofs.Ytckjgfbfjjiikaa.T
