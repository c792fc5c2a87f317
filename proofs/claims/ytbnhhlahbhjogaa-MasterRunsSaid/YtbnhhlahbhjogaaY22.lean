/- The master's runs in time: the plain law. -/
import Derived.Test.YtbnhhlahbhjogaaY20
set_option linter.unusedVariables false
set_option linter.unusedSimpArgs false
set_option maxRecDepth 100000
namespace Go.Proofs.Ytbnhhlahbhjogaa.K
open Go.RowKit Go.Proofs.YtbnhhlahbhjogaaW.PrintWords Go.Proofs.YtbnhhlahbhjogaaW.PrintLast Go.Proofs.YtbnhhlahbhjogaaW.PrintMore Go.Proofs.Ytbnhhlahbhjogaa.U Go.Proofs.Ytbnhhlahbhjogaa.T

def unS (c : CfgD) (a l : Nat) : SpS := ⟨a, min a c.tries, l, false, 0, []⟩
/-- All splits alike: at time t, asked a times, at l the last time. -/
def Un (c : CfgD) (t a l : Nat) : MaS := ⟨t, List.replicate c.job.splits.length (unS c a l), [false, false, false, false], 0, 0, 0⟩
theorem un_m0 (c : CfgD) (h : 1 ≤ c.tries) : m0 c = Un c 0 0 0 := by
  unfold m0 Un unS zeroS
  rw [show min ((0 : Nat) : Int) c.tries = 0 from by omega]
  rfl
theorem rep_set {α : Type} (k n : Nat) (x y : α) (h : k < n) : (List.replicate k x ++ List.replicate (n - k) y).set k x = List.replicate (k + 1) x ++ List.replicate (n - (k + 1)) y := by
  obtain ⟨d, rfl⟩ : ∃ d, n = k + 1 + d := ⟨n - (k + 1), by omega⟩
  rw [show k + 1 + d - k = d + 1 from by omega, show k + 1 + d - (k + 1) = d from by omega]
  rw [List.set_append_right _ _ (by rw [List.length_replicate]; omega), List.length_replicate, Nat.sub_self, List.replicate_succ (n := d), List.set_cons_zero]
  rw [List.replicate_succ' (n := k), List.append_assoc]
  rfl
theorem un_get (c : CfgD) (t a l k : Nat) (h : k < c.job.splits.length) : (Un c t a l).sp.getD k zeroS = unS c a l := by
  unfold Un
  rw [List.getD_eq_getElem?_getD, List.getElem?_replicate, if_pos h]
  rfl
def runsL (c : CfgD) (a : Nat) (i : Nat) : FLet := runL c ((i : Int) + (a : Int)) i (min ((a : Int) + 1) c.tries)
theorem wake_run (c : CfgD) (t a l : Nat) (ht : 1 ≤ c.tries) (hrun : a = 0 ∨ c.timeout ≤ (t : Int) - l) (k : Nat) (hk : k ≤ c.job.splits.length) :
    wakeUp c (Un c t a l) k = ({ Un c t a l with sp := List.replicate k (unS c (a + 1) t) ++ List.replicate (c.job.splits.length - k) (unS c a l) }, (List.range k).map (runsL c a)) := by
  induction k with
  | zero => rfl
  | succ k ih =>
    have hg := un_get c t a l k (by omega)
    have hsk : skipW c (Un c t a l) k = false := by
      cases e : skipW c (Un c t a l) k
      · rfl
      · rcases (skip_iff c _ k).1 e with h | h
        · rw [hg] at h
          cases h
        · rw [hg] at h
          obtain ⟨h1, h2⟩ := h
          have h1 : 0 < min (a : Int) c.tries := h1
          have h2 : (t : Int) - l < c.timeout := h2
          omega
    show (if _ then _ else _) = _
    rw [hsk, if_neg (by decide), ih (by omega), hg]
    have hnew : wakeSp c (Un c t a l).now (unS c a l) = unS c (a + 1) t := by
      unfold wakeSp unS Un
      show SpS.mk _ _ _ _ _ _ = SpS.mk _ _ _ _ _ _
      congr 1
      show min (min (a : Int) c.tries + 1) c.tries = min (((a + 1 : Nat)) : Int) c.tries
      omega
    rw [hnew]
    have hs := rep_set k c.job.splits.length (unS c (a + 1) t) (unS c a l) (by omega)
    dsimp only
    rw [hs, List.range_succ, List.map_append]
    have hl : runL c ((k : Int) + (unS c a l).asked) k (min ((unS c a l).tr + 1) c.tries) = runsL c a k := by
      unfold runsL unS
      show runL c _ _ (min (min (a : Int) c.tries + 1) c.tries) = _
      rw [show min (min (a : Int) c.tries + 1) c.tries = min ((a : Int) + 1) c.tries from by omega]
    rw [hl]
    rfl
theorem wake_all (c : CfgD) (t a l : Nat) (ht : 1 ≤ c.tries) (hrun : a = 0 ∨ c.timeout ≤ (t : Int) - l) : wakeF c (Un c t a l) = (Un c t (a + 1) t, (List.range c.job.splits.length).map (runsL c a)) := by
  have hn : (Un c t a l).sp.length = c.job.splits.length := List.length_replicate ..
  unfold wakeF
  rw [if_pos (show (Un c t a l).st = 0 from rfl), hn, wake_run c t a l ht hrun _ (Nat.le_refl _), Nat.sub_self, List.replicate_zero, List.append_nil]
  rfl
theorem wake_skip (c : CfgD) (t a l : Nat) (ht : 1 ≤ c.tries) (ha : 0 < a) (hrun : (t : Int) - l < c.timeout) : wakeF c (Un c t a l) = (Un c t a l, []) := by
  have hn : (Un c t a l).sp.length = c.job.splits.length := List.length_replicate ..
  have key : ∀ k, k ≤ c.job.splits.length → wakeUp c (Un c t a l) k = (Un c t a l, []) := by
    intro k
    induction k with
    | zero => intro _; rfl
    | succ k ih =>
      intro hk
      have hg := un_get c t a l k (by omega)
      have hsk : skipW c (Un c t a l) k = true := (skip_iff c _ k).2 (.inr (by rw [hg]; exact ⟨by show 0 < min (a : Int) c.tries; omega, hrun⟩))
      show (if _ then _ else _) = _
      rw [hsk, if_pos rfl]
      exact ih (by omega)
  unfold wakeF
  rw [if_pos (show (Un c t a l).st = 0 from rfl), hn]
  exact key _ (Nat.le_refl _)
def aftT (c : CfgD) (T t : Nat) : MaS := Un c t (t / T + 1) (t / T * T)
def befT (c : CfgD) (T : Nat) : Nat → MaS
  | 0 => Un c 0 0 0
  | t + 1 => Un c (t + 1) (t / T + 1) (t / T * T)
theorem div_next (t T : Nat) (hT : 0 < T) : ((t + 1) % T = 0 ∧ (t + 1) / T = t / T + 1 ∧ t + 1 = t / T * T + T) ∨ ((t + 1) % T ≠ 0 ∧ (t + 1) / T = t / T ∧ t + 1 < t / T * T + T) := by
  have h1 := Nat.div_add_mod t T
  have h2 := Nat.mod_lt t hT
  have h3 := Nat.div_add_mod (t + 1) T
  rw [Nat.mul_comm] at h1
  by_cases h : t % T + 1 = T
  · refine .inl ?_
    have e : t + 1 = t / T * T + T := by omega
    have hd : (t + 1) / T = t / T + 1 := by
      have e2 : t + 1 = (t / T + 1) * T := by rw [Nat.succ_mul]; omega
      rw [e2]
      exact Nat.mul_div_cancel _ hT
    refine ⟨?_, hd, e⟩
    rw [hd, Nat.mul_comm, Nat.succ_mul] at h3
    omega
  · refine .inr ?_
    have hd : (t + 1) / T = t / T := Nat.div_eq_of_lt_le (by omega) (by rw [Nat.succ_mul]; omega)
    rw [hd, Nat.mul_comm] at h3
    exact ⟨by omega, hd, by omega⟩
theorem runs_wake (c : CfgD) (T t : Nat) (ht : 1 ≤ c.tries) (hT : c.timeout = T) (hT0 : 0 < T) : wakeF c (befT c T t) = (aftT c T t, if t % T = 0 then (List.range c.job.splits.length).map (runsL c (t / T)) else []) := by
  cases t with
  | zero =>
    unfold befT aftT
    rw [wake_all c 0 0 0 ht (.inl rfl), Nat.zero_div, Nat.zero_mod, if_pos rfl, Nat.zero_mul]
  | succ t =>
    unfold befT aftT
    rcases div_next t T hT0 with ⟨h1, h2, h3⟩ | ⟨h1, h2, h3⟩
    · rw [wake_all c (t + 1) (t / T + 1) (t / T * T) ht (.inr (by rw [hT]; exact (fun (L : Nat) (h : t + 1 = L + T) => (by omega : (T : Int) ≤ ((t + 1 : Nat) : Int) - (L : Int))) _ h3)), h1, if_pos rfl, h2]
      rw [show (t / T + 1) * T = t + 1 from by rw [Nat.succ_mul]; omega]
    · rw [wake_skip c (t + 1) (t / T + 1) (t / T * T) ht (Nat.succ_pos _) (by rw [hT]; exact (fun (L : Nat) (h : t + 1 < L + T) => (by omega : ((t + 1 : Nat) : Int) - (L : Int) < (T : Int))) _ h3), if_neg h1, h2]
theorem runs_again (c : CfgD) (T t : Nat) (ht : 1 ≤ c.tries) (hT : c.timeout = T) (hT0 : 0 < T) : wakeF c (aftT c T t) = (aftT c T t, []) := by
  unfold aftT
  have h1 := Nat.div_add_mod t T
  have h2 := Nat.mod_lt t hT0
  rw [Nat.mul_comm] at h1
  exact wake_skip c t (t / T + 1) (t / T * T) ht (Nat.succ_pos _) (by rw [hT]; exact (fun (L r : Nat) (h : L + r = t) (h' : r < T) => (by omega : (t : Int) - (L : Int) < (T : Int))) _ _ h1 h2)
theorem runs_tick (c : CfgD) (T t : Nat) (h : t ≤ 1000) : { aftT c T t with now := min ((aftT c T t).now + 1) 1099511627776 } = befT c T (t + 1) := by
  have e : min (((t : Nat) : Int) + 1) 1099511627776 = ((t + 1 : Nat) : Int) := by omega
  unfold aftT befT Un
  dsimp only
  rw [e]
theorem un_B (c : CfgD) (t a l : Nat) (ht : 1 ≤ c.tries ∧ c.tries ≤ 3) (h1 : t ≤ 1000) (h2 : a ≤ 1001) (h3 : l ≤ 1000) : MaB (Un c t a l) 1001 where
  n0 := by show (0 : Int) ≤ (t : Int); omega
  n1 := by show (t : Int) ≤ 1099511627776; omega
  r0 := by show (0 : Int) ≤ 0; omega
  r1 := by show (0 : Int) ≤ 1001; omega
  a0 s hs := by rw [List.eq_of_mem_replicate hs]; show (0 : Int) ≤ (a : Int); omega
  a1 s hs := by rw [List.eq_of_mem_replicate hs]; show (a : Int) ≤ 1001; omega
  t0 s hs := by rw [List.eq_of_mem_replicate hs]; show (0 : Int) ≤ min (a : Int) c.tries; omega
  t1 s hs := by rw [List.eq_of_mem_replicate hs]; show min (a : Int) c.tries ≤ 4; omega
  l0 s hs := by rw [List.eq_of_mem_replicate hs]; show (0 : Int) ≤ (l : Int); omega
  l1 s hs := by rw [List.eq_of_mem_replicate hs]; show (l : Int) ≤ 1099511627776; omega
theorem aft_B (c : CfgD) (T t : Nat) (ht : 1 ≤ c.tries ∧ c.tries ≤ 3) (h : t ≤ 1000) : MaB (aftT c T t) 1001 := by
  have h1 : t / T ≤ t := Nat.div_le_self ..
  have h2 : t / T * T ≤ t := Nat.div_mul_le_self ..
  exact un_B c t _ _ ht h (by omega) (by omega)
theorem bef_B (c : CfgD) (T t : Nat) (ht : 1 ≤ c.tries ∧ c.tries ≤ 3) (h : t ≤ 1000) : MaB (befT c T t) 1001 := by
  cases t with
  | zero => exact un_B c 0 0 0 ht (by omega) (by omega) (by omega)
  | succ t =>
    have h1 : t / T ≤ t := Nat.div_le_self ..
    have h2 : t / T * T ≤ t := Nat.div_mul_le_self ..
    exact un_B c (t + 1) _ _ ht h (by omega) (by omega)
end Go.Proofs.Ytbnhhlahbhjogaa.K
