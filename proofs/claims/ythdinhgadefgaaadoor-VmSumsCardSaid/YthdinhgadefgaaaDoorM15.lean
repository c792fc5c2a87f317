/- The machine as a function: bounds, fuel. -/
import Derived.Test.YthdinhgadefgaaaDoorM11
set_option linter.unusedVariables false
set_option linter.unusedSimpArgs false
namespace Go.Proofs.YthdinhgadefgaaaDoor.K
open Go.RowKit Go.Proofs.YthdinhgadefgaaaDoorW.PrintWords Go.Proofs.YthdinhgadefgaaaDoorW.PrintLast Go.Proofs.YthdinhgadefgaaaDoorW.PrintMore Go.Proofs.YthdinhgadefgaaaDoor.U Go.Proofs.YthdinhgadefgaaaDoor.T Go.Proofs.YthdinhgadefgaaaDoor.V

theorem pushW_in (st vs : List ValD) : 0 ≤ pushW st vs ∧ pushW st vs ≤ 5 ∧ pushW st vs ≠ 3 := by
  unfold pushW
  repeat' split
  all_goals omega
theorem pushP_in (s : St) (vs : List ValD) : 0 ≤ (pushP s vs).1 ∧ (pushP s vs).1 ≤ 5 ∧ (pushP s vs).1 ≠ 3 := pushW_in _ _
theorem opS_why (key : ByteArray) (s : St) (n : Nat) (a : Int) (sb : ByteArray) (v : List ValD) : 0 ≤ (opS key s n a sb v).1 ∧ (opS key s n a sb v).1 ≤ 5 ∧ (opS key s n a sb v).1 ≠ 3 := by
  unfold opS
  split
  all_goals first
    | exact pushP_in _ _
    | (show 0 ≤ (0 : Int) ∧ (0 : Int) ≤ 5 ∧ (0 : Int) ≠ 3; omega)
    | skip
  · show 0 ≤ nextW s ∧ nextW s ≤ 5 ∧ nextW s ≠ 3
    unfold nextW
    split <;> exact pushW_in _ _
  · show 0 ≤ emitW s _ ∧ emitW s _ ≤ 5 ∧ emitW s _ ≠ 3
    unfold emitW
    repeat' split
    all_goals omega
theorem doesF_why (key : ByteArray) (s : St) (op a : Int) (sb : ByteArray) : 0 ≤ (doesF key s op a sb).1 ∧ (doesF key s op a sb).1 ≤ 5 ∧ (doesF key s op a sb).1 ≠ 3 := by
  unfold doesF
  split
  · show 0 ≤ (1 : Int) ∧ (1 : Int) ≤ 5 ∧ (1 : Int) ≠ 3; omega
  · split
    · show 0 ≤ (2 : Int) ∧ (2 : Int) ≤ 5 ∧ (2 : Int) ≠ 3; omega
    · exact opS_why _ _ _ _ _ _
/-- One step of the loop. -/
def stepF (key : ByteArray) (p : List InsD) (s : St) : Int × St :=
  doesF key { s with steps := s.steps + 1, at_ := s.at_ + 1 } (p.getD s.at_.toNat ⟨0, 0, ⟨#[]⟩⟩).op (p.getD s.at_.toNat ⟨0, 0, ⟨#[]⟩⟩).a (p.getD s.at_.toNat ⟨0, 0, ⟨#[]⟩⟩).s
def goesOn (p : List InsD) (s : St) : Prop := s.at_ < p.length ∧ s.halted = false
instance (p : List InsD) (s : St) : Decidable (goesOn p s) := by unfold goesOn; infer_instance
theorem playN_zero (key : ByteArray) (p : List InsD) (s : St) : playN key p 0 s = if goesOn p s then (3, s) else (0, s) := rfl
theorem playN_succ (key : ByteArray) (p : List InsD) (k : Nat) (s : St) : playN key p (k + 1) s = if goesOn p s then (if (stepF key p s).1 = 0 then playN key p k (stepF key p s).2 else stepF key p s) else (0, s) := rfl
theorem stepF_steps (key : ByteArray) (p : List InsD) (s : St) : (stepF key p s).2.steps = s.steps + 1 := (doesF_rest key { s with steps := s.steps + 1, at_ := s.at_ + 1 } _ _ _).1
theorem stepF_why (key : ByteArray) (p : List InsD) (s : St) : 0 ≤ (stepF key p s).1 ∧ (stepF key p s).1 ≤ 5 ∧ (stepF key p s).1 ≠ 3 := doesF_why _ _ _ _ _
theorem playN_why (key : ByteArray) (p : List InsD) (k : Nat) : ∀ s, 0 ≤ (playN key p k s).1 ∧ (playN key p k s).1 ≤ 5 := by
  induction k with
  | zero => intro s; rw [playN_zero]; split <;> (constructor <;> (show _ ≤ _; omega))
  | succ k ih =>
    intro s
    rw [playN_succ]
    split
    · split
      · exact ih _
      · have := stepF_why key p s; omega
    · constructor <;> (show _ ≤ _; omega)
/-- How many steps; all of them, if it ends for that. -/
theorem playN_steps (key : ByteArray) (p : List InsD) (k : Nat) : ∀ s, s.steps ≤ (playN key p k s).2.steps ∧ (playN key p k s).2.steps ≤ s.steps + k ∧ ((playN key p k s).1 = 3 → (playN key p k s).2.steps = s.steps + k) := by
  induction k with
  | zero =>
    intro s
    rw [playN_zero]
    split
    · exact ⟨Int.le_refl _, by show s.steps ≤ s.steps + ((0 : Nat) : Int); omega, fun _ => by show s.steps = s.steps + ((0 : Nat) : Int); omega⟩
    · exact ⟨Int.le_refl _, by show s.steps ≤ s.steps + ((0 : Nat) : Int); omega, fun h => by cases h⟩
  | succ k ih =>
    intro s
    have hs := stepF_steps key p s
    rw [playN_succ]
    split
    · split
      · obtain ⟨h1, h2, h3⟩ := ih (stepF key p s).2
        exact ⟨by omega, by omega, fun h => by have := h3 h; omega⟩
      · exact ⟨by omega, by omega, fun h => absurd h (stepF_why key p s).2.2⟩
    · exact ⟨Int.le_refl _, by show s.steps ≤ s.steps + ((k + 1 : Nat) : Int); omega, fun h => by cases h⟩
/-- With less fuel there is the same, or Fuel. -/
theorem playN_less (key : ByteArray) (p : List InsD) (k : Nat) : ∀ (j : Nat) s, j ≤ k → (playN key p j s).1 ≠ 3 → playN key p j s = playN key p k s := by
  induction k with
  | zero => intro j s hj _; obtain rfl : j = 0 := (by omega); rfl
  | succ k ih =>
    intro j s hj h
    cases j with
    | zero =>
      rw [playN_zero] at h ⊢
      rw [playN_succ]
      split at h
      · exact absurd rfl h
      · rename_i hg
        rw [if_neg hg, if_neg hg]
    | succ j =>
      rw [playN_succ] at h
      rw [playN_succ, playN_succ]
      split at h
      · rename_i hg
        rw [if_pos hg, if_pos hg]
        split at h
        · rename_i hz
          rw [if_pos hz, if_pos hz]
          exact ih j _ (by omega) h
        · rename_i hz
          rw [if_neg hz, if_neg hz]
      · rename_i hg
        rw [if_neg hg, if_neg hg]
/-- As many steps as were done are enough; one less is not. -/
theorem playN_enough (key : ByteArray) (p : List InsD) (k : Nat) : ∀ s n, (playN key p k s).2.steps = s.steps + (n : Nat) → playN key p n s = playN key p k s ∧ (0 < n → (playN key p k s).1 ≠ 3 → (playN key p (n - 1) s).1 = 3) := by
  induction k with
  | zero =>
    intro s n h
    have h2 := (playN_steps key p 0 s).2.1
    obtain rfl : n = 0 := by omega
    exact ⟨rfl, fun h => by omega⟩
  | succ k ih =>
    intro s n h
    have hs := stepF_steps key p s
    by_cases hg : goesOn p s
    · by_cases hz : (stepF key p s).1 = 0
      · have e : playN key p (k + 1) s = playN key p k (stepF key p s).2 := by rw [playN_succ, if_pos hg, if_pos hz]
        rw [e] at h ⊢
        have h1 := (playN_steps key p k (stepF key p s).2).1
        obtain ⟨m, rfl⟩ : ∃ m, n = m + 1 := ⟨n - 1, by omega⟩
        obtain ⟨i1, i2⟩ := ih (stepF key p s).2 m (by omega)
        refine ⟨by rw [playN_succ, if_pos hg, if_pos hz]; exact i1, fun _ h3 => ?_⟩
        rw [Nat.add_sub_cancel]
        cases m with
        | zero => rw [playN_zero, if_pos hg]
        | succ m =>
          rw [playN_succ, if_pos hg, if_pos hz]
          have := i2 (by omega) h3
          rw [Nat.add_sub_cancel] at this
          exact this
      · have e : playN key p (k + 1) s = stepF key p s := by rw [playN_succ, if_pos hg, if_neg hz]
        rw [e] at h ⊢
        obtain rfl : n = 1 := by omega
        exact ⟨by rw [playN_succ, if_pos hg, if_neg hz], fun _ _ => by rw [show 1 - 1 = 0 from rfl, playN_zero, if_pos hg]⟩
    · have e : playN key p (k + 1) s = (0, s) := by rw [playN_succ, if_neg hg]
      rw [e] at h ⊢
      have h' : s.steps = s.steps + (n : Int) := h
      obtain rfl : n = 0 := by omega
      exact ⟨by rw [playN_zero, if_neg hg], fun h => by omega⟩
theorem playN_ok (key : ByteArray) (p : List InsD) (hp : ∀ x ∈ p, In64 x.a) (k : Nat) : ∀ s, SOk s → SOk (playN key p k s).2 := by
  have hget : ∀ i, In64 (p.getD i ⟨0, 0, ⟨#[]⟩⟩).a := fun i => by
    rw [List.getD_eq_getElem?_getD]
    cases hj : p[i]? with
    | none => exact in64_small (by show -1000000 ≤ (0 : Int); omega) (by show (0 : Int) ≤ 1000000; omega)
    | some v => exact hp v (List.mem_of_getElem? hj)
  have hst : ∀ s, SOk s → SOk (stepF key p s).2 := fun s hs => SOk.does (s := { s with steps := s.steps + 1, at_ := s.at_ + 1 }) ⟨hs.sl, hs.sv, hs.rl, hs.rv, hs.tl, hs.tv, hs.vl, hs.vv⟩ key _ _ (hget _) _
  induction k with
  | zero => intro s hs; rw [playN_zero]; split <;> exact hs
  | succ k ih =>
    intro s hs
    rw [playN_succ]
    split
    · split
      · exact ih _ (hst s hs)
      · exact hst s hs
    · exact hs
end Go.Proofs.YthdinhgadefgaaaDoor.K
