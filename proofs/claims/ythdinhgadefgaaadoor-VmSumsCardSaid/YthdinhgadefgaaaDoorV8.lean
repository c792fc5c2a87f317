/- Values: what the laid variables give. -/
import Derived.Test.YthdinhgadefgaaaDoorV3
import Derived.Test.YthdinhgadefgaaaDoorRows
import Derived.LaidMore
import Derived.Stop.Joined
import Derived.Stop.LaidErr
import Derived.Lib.LaidTab
import Derived.ProofKit
set_option maxRecDepth 100000
namespace Go.Proofs.YthdinhgadefgaaaDoor.K
open Go.RowKit
theorem cT : Tryd.prog.cellsOf 101 = 20 := by kernel_rfl
theorem cU : Tryd.prog.cellsOf 64 = 1 := by kernel_rfl
theorem cE : Tryd.prog.cellsOf 119 = 1 := by kernel_rfl
theorem cS : Tryd.prog.cellsOf 9 = 1 := by kernel_rfl
theorem starE : "*" ++ "errors.errorString" = "*errors.errorString" := by decide
theorem rowE (u : TypeId) (h : Tryd.prog.typeName? 3 u = some "*errors.errorString") : u = 117 :=
  typeName_ptr_named (nm := "errors.errorString") (by rw [starE]; kernel_rfl) (by kernel_rfl) (by decide) u (by rw [starE]; exact h)
theorem env_of {W : World} (h : laidMetH Tryd.prog [("math/bits.deBruijn32tab", Rows.laid_math_bits_deBruijn32tab), ("math/bits.deBruijn64tab", Rows.laid_math_bits_deBruijn64tab), ("internal/strconv.uint64pow10", Rows.laid_internal_strconv_uint64pow10), ("strconv.ErrRange", Rows.laid_strconv_ErrRange), ("strconv.ErrSyntax", Rows.laid_strconv_ErrSyntax)] W) : Env W := by
  rw [MakeChecks.laidMetH_plain _ _ _ (by kernel_rfl)] at h
  have h1 : Lib.TabIs Tryd.prog W "internal/strconv.uint64pow10" .u64 Lib.pow10Tab := Lib.tabIs_of_head (g := 0) (t := 101) (e := 64) (by kernel_rfl) (by kernel_rfl) Tryd.underlying101 Tryd.underlying64 cU cT h.tail.tail
  obtain ⟨a0, s0, hv0, -, -, -⟩ := laid_sentinel (g := 2) (ti := 60) (tp := 117) (te := 119) (ts := 9) h.tail.tail.tail (by kernel_rfl) (by kernel_rfl) Tryd.underlying60 rowE Tryd.underlying117 Tryd.underlying119 rfl rfl Tryd.underlying9 cE cS
  obtain ⟨a1, s1, hv1, -, -, -⟩ := laid_sentinel (g := 1) (ti := 60) (tp := 117) (te := 119) (ts := 9) h.tail.tail.tail.tail (by kernel_rfl) (by kernel_rfl) Tryd.underlying60 rowE Tryd.underlying117 Tryd.underlying119 rfl rfl Tryd.underlying9 cE cS
  exact ⟨h1, ⟨_, _, hv1⟩, ⟨_, _, hv0⟩⟩
end Go.Proofs.YthdinhgadefgaaaDoor.K
