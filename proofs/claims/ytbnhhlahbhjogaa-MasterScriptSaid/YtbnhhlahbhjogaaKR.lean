/- Lists of lists of pairs. -/
import Derived.Test.YtbnhhlahbhjogaaKQ
set_option linter.unusedVariables false
set_option linter.unusedSimpArgs false
namespace Go.Proofs.Ytbnhhlahbhjogaa.K
open Go.RowKit Go.Proofs.YtbnhhlahbhjogaaW.PrintWords Go.Proofs.YtbnhhlahbhjogaaW.PrintWords Go.Proofs.YtbnhhlahbhjogaaW.PrintLast Go.Proofs.YtbnhhlahbhjogaaW.PrintMore Go.Proofs.Ytbnhhlahbhjogaa.U Go.Proofs.Ytbnhhlahbhjogaa.T

def kRows : Kd (List PairD) := Kd.slice 113 kPair
theorem at_rows {w : World} {A : Option Addr} {n : Nat} {xs : List (List PairD)} (h : Kd.C kRows w A n xs) (k : Nat) (hk : k < xs.length) : ∃ ad A1 c1, A = some ad ∧ w.cell? (ad.add k) = some (.slice A1 xs[k].length c1) ∧ xs[k].length ≤ c1 ∧ kPair.C w A1 xs[k].length xs[k] := by
  obtain ⟨ad, c, e, hl, hK, hc⟩ := Kd.C_get h [] (k : Int) (by omega) (by have := Kd.C_len h; omega)
  obtain ⟨A1, c1, rfl, hle, hC⟩ := hK
  have e1 : xs.getD (k : Int).toNat [] = xs[k] := by rw [Int.toNat_natCast]; simp [List.getD_eq_getElem?_getD, hk]
  have h2 := hc 0 _ rfl
  rw [e1] at hle hC h2
  rw [Int.toNat_natCast] at h2
  exact ⟨ad, A1, c1, e, by simpa [kRows, Kd.slice] using h2, hle, hC⟩

end Go.Proofs.Ytbnhhlahbhjogaa.K
namespace Go.Proofs.Ytbnhhlahbhjogaa.T
open Go.RowKit Go.Proofs.YtbnhhlahbhjogaaW.PrintWords Go.Proofs.YtbnhhlahbhjogaaW.PrintLast Go.Proofs.YtbnhhlahbhjogaaW.PrintMore Go.Proofs.Ytbnhhlahbhjogaa.U Go.Proofs.Ytbnhhlahbhjogaa.K
theorem open_43 : Opens Try.prog 43 kRows (fun xs => ∀ x ∈ xs, GPair x) := Opens.slice 113 Try.underlying43 (by kernel_rfl) open_113
end Go.Proofs.Ytbnhhlahbhjogaa.T
