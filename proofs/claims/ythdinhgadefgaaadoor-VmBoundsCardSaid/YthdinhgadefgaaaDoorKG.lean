/- Is there more than is gone through? -/
import Derived.Test.YthdinhgadefgaaaDoorT
import Derived.Deep.LoopGhost
set_option linter.unusedVariables false
set_option linter.unusedSimpArgs false
namespace Go.Proofs.YthdinhgadefgaaaDoor.K
open Go.RowKit Go.Proofs.YthdinhgadefgaaaDoorW.PrintWords Go.Proofs.YthdinhgadefgaaaDoorW.PrintLast Go.Proofs.YthdinhgadefgaaaDoorW.PrintMore Go.Proofs.YthdinhgadefgaaaDoor.U Go.Proofs.YthdinhgadefgaaaDoor.T
theorem at_string {w : World} {A : Option Addr} {n : Nat} {xs : List ByteArray} (h : Kd.C Kd.string w A n xs) (k : Nat) (hk : k < xs.length) : ∃ ad, A = some ad ∧ w.cell? (ad.add k) = some (.string xs[k]) := by
  obtain ⟨ad, c, e, hl, hK, hc⟩ := Kd.C_get h ByteArray.empty (k : Int) (by omega) (by have := Kd.C_len h; omega)
  have e1 : c = [.string xs[k]] := by
    have : c = [Value.string (xs.getD (k : Int).toNat ByteArray.empty)] := hK
    rw [this, Int.toNat_natCast]
    simp [List.getD_eq_getElem?_getD, hk]
  subst e1
  have h2 := hc 0 _ rfl
  rw [Int.toNat_natCast] at h2
  exact ⟨ad, e, by simpa [Kd.string, Kd.scalar] using h2⟩

set_option maxHeartbeats 800000 in
theorem greatTexts (A0 : Option Addr) (c0 : Nat) (l0 : List ByteArray) (m : Int) (w : World) (hr0 : Kd.C Kd.string w A0 l0.length l0) (hg0 : ∀ s ∈ l0, s.size ≤ 9223372036854775807) :
    Calls Tryd.prog 39 #[.slice A0 l0.length c0, .int .i64 m] w fun e w' => RetBool (fun r => r = false → (l0.length : Int) ≤ m ∧ ∀ s ∈ l0, s.size ≤ 100) e ∧ Below w.heap.size w w' := by
  have hm0 := Kd.C_max hr0
  have HR0 := Aside0.mk hr0
  have HG0 := Aside0.mk hg0
  clear hr0 hg0
  go_enter Tryd.func39, Tryd.ntmps39
  go_wp2_with fail
  go_loopg [5] l0.length (fun kq v5 w' => ∃ k : Nat, k + kq = l0.length ∧ v5 = .int .i64 k ∧ Aside0 (∀ j (hj : j < l0.length), j < k → l0[j].size ≤ 100) ∧ Drawn0 w w')
  case atStart => exact ⟨0, by omega, rfl, ⟨fun j hj h => by omega⟩, Drawn0.refl _⟩
  case round =>
    obtain ⟨k, hk, rfl, HA, ⟨m1, rfl⟩⟩ := hrel
    by_cases hlt : k < l0.length
    · by_cases hmost : (l0.length : Int) ≤ m
      · obtain ⟨ad, rfl, hc⟩ := at_string HR0.out k hlt
        obtain ⟨s, hs⟩ : ∃ s, s = l0[k] := ⟨_, rfl⟩
        rw [← hs] at hc
        have hsz : s.size ≤ 9223372036854775807 := by rw [hs]; exact HG0.out _ (List.getElem_mem _)
        have HS := Aside0.mk hs
        clear hs
        by_cases hbig : 100 < s.size
        · go_wp2_with fail
          go_ret
          exact ⟨RetBool.mk true (by simp), (Drawn0.step (Drawn0.refl w) m1).below⟩
        · go_wp2_with fail
          go_roundg (l0.length - (k + 1))
          case measure => omega
          case rel => exact ⟨k + 1, by omega, by go_num, ⟨fun j hj h => by
            rcases Nat.lt_or_ge j k with h1 | h1
            · exact HA.out j hj h1
            · obtain rfl : j = k := by omega
              rw [← HS.out]
              omega⟩, Drawn0.step (Drawn0.refl w) m1⟩
      · go_wp2_with fail
        go_ret
        exact ⟨RetBool.mk true (by simp), (Drawn0.step (Drawn0.refl w) m1).below⟩
    · by_cases hmost : (l0.length : Int) ≤ m
      · go_wp2_with fail
        go_ret
        refine ⟨RetBool.mk (decide (m < (l0.length : Int))) (fun _ => ⟨hmost, fun s hs => ?_⟩), (Drawn0.step (Drawn0.refl w) m1).below⟩
        obtain ⟨j, hj, rfl⟩ := List.getElem_of_mem hs
        exact HA.out j hj (by omega)
      · go_wp2_with fail
        go_ret
        exact ⟨RetBool.mk true (by simp), (Drawn0.step (Drawn0.refl w) m1).below⟩
end Go.Proofs.YthdinhgadefgaaaDoor.K
