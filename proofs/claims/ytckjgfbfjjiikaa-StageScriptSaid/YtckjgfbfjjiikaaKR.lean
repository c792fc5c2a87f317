/- Lists of lists of pairs. -/
import Derived.Test.YtckjgfbfjjiikaaKQ
set_option linter.unusedVariables false
set_option linter.unusedSimpArgs false
namespace Go.Proofs.Ytckjgfbfjjiikaa.K
open Go.RowKit Go.Proofs.YtckjgfbfjjiikaaW.PrintWords Go.Proofs.YtckjgfbfjjiikaaW.PrintWords Go.Proofs.YtckjgfbfjjiikaaW.PrintLast Go.Proofs.YtckjgfbfjjiikaaW.PrintMore Go.Proofs.Ytckjgfbfjjiikaa.U Go.Proofs.Ytckjgfbfjjiikaa.T

def kRows : Kd (List PairD) := Kd.slice 80 kPair
theorem at_rows {w : World} {A : Option Addr} {n : Nat} {xs : List (List PairD)} (h : Kd.C kRows w A n xs) (k : Nat) (hk : k < xs.length) : ∃ ad A1 c1, A = some ad ∧ w.cell? (ad.add k) = some (.slice A1 xs[k].length c1) ∧ xs[k].length ≤ c1 ∧ kPair.C w A1 xs[k].length xs[k] := by
  obtain ⟨ad, c, e, hl, hK, hc⟩ := Kd.C_get h [] (k : Int) (by omega) (by have := Kd.C_len h; omega)
  obtain ⟨A1, c1, rfl, hle, hC⟩ := hK
  have e1 : xs.getD (k : Int).toNat [] = xs[k] := by rw [Int.toNat_natCast]; simp [List.getD_eq_getElem?_getD, hk]
  have h2 := hc 0 _ rfl
  rw [e1] at hle hC h2
  rw [Int.toNat_natCast] at h2
  exact ⟨ad, A1, c1, e, by simpa [kRows, Kd.slice] using h2, hle, hC⟩

end Go.Proofs.Ytckjgfbfjjiikaa.K
namespace Go.Proofs.Ytckjgfbfjjiikaa.T
open Go.RowKit Go.Proofs.YtckjgfbfjjiikaaW.PrintWords Go.Proofs.YtckjgfbfjjiikaaW.PrintLast Go.Proofs.YtckjgfbfjjiikaaW.PrintMore Go.Proofs.Ytckjgfbfjjiikaa.U Go.Proofs.Ytckjgfbfjjiikaa.K
theorem open_45 : Opens Try.prog 45 kRows (fun xs => ∀ x ∈ xs, GPair x) := Opens.slice 80 Try.underlying45 (by kernel_rfl) open_80
end Go.Proofs.Ytckjgfbfjjiikaa.T
