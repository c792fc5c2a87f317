/- Arithmetic, as the pure machine does it. -/
import Derived.Test.YthdinhgadefgaaaDoorM15
import Derived.Test.YthdinhgadefgaaaDoorM12
set_option linter.unusedVariables false
set_option linter.unusedSimpArgs false
set_option maxRecDepth 100000
namespace Go.Proofs.YthdinhgadefgaaaDoor.K
open Go.RowKit Go.Proofs.YthdinhgadefgaaaDoorW.PrintWords Go.Proofs.YthdinhgadefgaaaDoorW.PrintLast Go.Proofs.YthdinhgadefgaaaDoorW.PrintMore Go.Proofs.YthdinhgadefgaaaDoor.U Go.Proofs.YthdinhgadefgaaaDoor.T Go.Proofs.YthdinhgadefgaaaDoor.V

def eB : ByteArray := ⟨#[]⟩
def insA (op a : Int) : InsD := ⟨op, a, ⟨#[]⟩⟩
def arP (op a b : Int) : List InsD := [insN 6 0, insN 1 a, insN 1 b, insN op 0, insN 17 0, insN 23 0]
def aSt (n : Int) (st : List ValD) (vals : List ByteArray) (told : List PairD) : St := ⟨vals, n, n, false, st, List.replicate 8 (intV 0), told⟩
theorem push_txt (s : St) (b : ByteArray) (hb : b.size ≤ 64) (hl : s.stack.length < 16) : pushP s [txtV b] = (0, { s with stack := s.stack ++ [txtV b] }) := by
  have h1 : ¬ ∃ v ∈ [txtV b], BigV v := by
    rintro ⟨v, hv, hB⟩
    obtain rfl := List.mem_singleton.1 hv
    have h2 : 64 < b.size := hB.2
    omega
  have hw : pushW s.stack [txtV b] = 0 := by
    unfold pushW
    rw [if_neg h1, if_neg (by simp; omega)]
  unfold pushP pushS
  rw [hw, if_pos rfl]
theorem digB_size (n : Int) (h : In64 n) : (digB n).size ≤ 64 := by
  have h1 := itoa_len h
  have h2 : (digB n).size = (Lib.itoa n).length := by rw [← digB_list]; simp
  omega
theorem arith_runs (op a b : Int) (hop : op = 8 ∨ op = 9 ∨ op = 10 ∨ op = 11) : finF eB (arP op a b) [] 6 = (0, aSt 6 [] [] [⟨eB, digB (numO op a b)⟩]) := by
  have e : finF eB (arP op a b) [] 6 = playN eB (arP op a b) 2 (aSt 4 [txtV eB, intV (numO op a b)] [] []) := by
    rcases hop with rfl | rfl | rfl | rfl <;> kernel_rfl
  have hs : stepF eB (arP op a b) (aSt 4 [txtV eB, intV (numO op a b)] [] []) = pushP (aSt 5 [txtV eB] [] []) [txtV (digB (numO op a b))] := by kernel_rfl
  rw [push_txt _ _ (digB_size _ (numO_in _ _ _)) (by show 1 < 16; omega)] at hs
  have e2 : playN eB (arP op a b) 1 (aSt 5 [txtV eB, txtV (digB (numO op a b))] [] []) = (0, aSt 6 [] [] [⟨eB, digB (numO op a b)⟩]) := by kernel_rfl
  rw [e, playN_succ, if_pos ⟨by show (4 : Int) < ((6 : Nat) : Int); omega, rfl⟩, hs, if_pos rfl]
  exact e2
def backP : List InsD := [insN 6 0, insN 7 0, insN 4 0, insN 18 0, insN 17 0, insN 23 0]
theorem back_runs (n : Int) (hn : In64 n) : finF eB backP [digB n] 6 = (0, aSt 6 [] [] [⟨eB, digB n⟩]) := by
  have h0 : playN eB backP 6 (runs0 [digB n]) = playN eB backP 5 (aSt 1 [txtV eB] [digB n] []) := by kernel_rfl
  have h1 : stepF eB backP (aSt 1 [txtV eB] [digB n] []) = pushP (aSt 2 [txtV eB] [] []) [txtV (digB n), intV 1] := by kernel_rfl
  have h2 : pushP (aSt 2 [txtV eB] [] []) [txtV (digB n), intV 1] = (0, aSt 2 [txtV eB, txtV (digB n), intV 1] [] []) := by
    have hb : ¬ ∃ v ∈ [txtV (digB n), intV 1], BigV v := by
      rintro ⟨v, hv, hB⟩
      rcases List.mem_cons.1 hv with rfl | hv
      · have h2 : 64 < (digB n).size := hB.2
        have := digB_size n hn
        omega
      · obtain rfl := List.mem_singleton.1 hv
        cases hB.1
    have hw : pushW (aSt 2 [txtV eB] [] []).stack [txtV (digB n), intV 1] = 0 := by
      unfold pushW
      rw [if_neg hb, if_neg (by show ¬ 16 < 3; omega)]
    unfold pushP pushS
    rw [hw, if_pos rfl]
    rfl
  have h3 : playN eB backP 4 (aSt 2 [txtV eB, txtV (digB n), intV 1] [] []) = playN eB backP 2 (aSt 4 [txtV eB, intV (numB (digB n))] [] []) := by kernel_rfl
  have h4 : stepF eB backP (aSt 4 [txtV eB, intV n] [] []) = pushP (aSt 5 [txtV eB] [] []) [txtV (digB n)] := by kernel_rfl
  rw [push_txt _ _ (digB_size _ hn) (by show 1 < 16; omega)] at h4
  have h5 : playN eB backP 1 (aSt 5 [txtV eB, txtV (digB n)] [] []) = (0, aSt 6 [] [] [⟨eB, digB n⟩]) := by kernel_rfl
  have e : finF eB backP [digB n] 6 = playN eB backP 6 (runs0 [digB n]) := rfl
  rw [e, h0, playN_succ, if_pos ⟨by show (1 : Int) < ((6 : Nat) : Int); omega, rfl⟩, h1, h2, if_pos rfl]
  show playN eB backP 4 (aSt 2 [txtV eB, txtV (digB n), intV 1] [] []) = _
  rw [h3, numB_dig hn, playN_succ, if_pos ⟨by show (4 : Int) < ((6 : Nat) : Int); omega, rfl⟩, h4, if_pos rfl]
  exact h5
def wantP (v : Int) : List InsD := [insN 6 0, insN 1 v, insN 17 0, insN 23 0]
theorem want_runs (n : Int) (hn : In64 n) : finF eB (wantP n) [] 4 = (0, aSt 4 [] [] [⟨eB, digB n⟩]) := by
  have e : finF eB (wantP n) [] 4 = playN eB (wantP n) 2 (aSt 2 [txtV eB, intV n] [] []) := by kernel_rfl
  have hs : stepF eB (wantP n) (aSt 2 [txtV eB, intV n] [] []) = pushP (aSt 3 [txtV eB] [] []) [txtV (digB n)] := by kernel_rfl
  rw [push_txt _ _ (digB_size _ hn) (by show 1 < 16; omega)] at hs
  have e2 : playN eB (wantP n) 1 (aSt 3 [txtV eB, txtV (digB n)] [] []) = (0, aSt 4 [] [] [⟨eB, digB n⟩]) := by kernel_rfl
  rw [e, playN_succ, if_pos ⟨by show (2 : Int) < ((4 : Nat) : Int); omega, rfl⟩, hs, if_pos rfl]
  exact e2
end Go.Proofs.YthdinhgadefgaaaDoor.K
