/- The master's commits: the plain law. -/
import Derived.Test.YtbnhhlahbhjogaaY20
set_option linter.unusedVariables false
set_option linter.unusedSimpArgs false
set_option maxRecDepth 100000
namespace Go.Proofs.Ytbnhhlahbhjogaa.K
open Go.RowKit Go.Proofs.YtbnhhlahbhjogaaW.PrintWords Go.Proofs.YtbnhhlahbhjogaaW.PrintLast Go.Proofs.YtbnhhlahbhjogaaW.PrintMore Go.Proofs.Ytbnhhlahbhjogaa.U Go.Proofs.Ytbnhhlahbhjogaa.T

def wonS (np : Nat) : SpS := ⟨0, 0, 0, true, 1, List.replicate np 0⟩
def cmSp (np : Nat) (won : List Bool) : List SpS := won.map (fun b => if b = true then wonS np else zeroS)
/-- Which splits were won, and which parts are ready. -/
def cmS (np : Nat) (won rp : List Bool) : MaS := ⟨0, cmSp np won, rp ++ List.replicate (4 - np) false, 0, 0, 0⟩
theorem cm_m0 (c : CfgD) (np : Nat) (hp : c.job.parts = np) (h1 : np ≤ 4) : m0 c = cmS np (List.replicate c.job.splits.length false) (List.replicate np false) := by
  unfold m0 cmS cmSp
  rw [List.map_replicate, List.replicate_append_replicate, show np + (4 - np) = 4 from by omega]
  rfl
theorem cm_get (np : Nat) (won rp : List Bool) (s : Nat) (hs : s < won.length) : (cmS np won rp).sp.getD s zeroS = if won[s] = true then wonS np else zeroS := by
  show (cmSp np won).getD s zeroS = _
  unfold cmSp
  rw [List.getD_eq_getElem?_getD, List.getElem?_map, List.getElem?_eq_getElem hs]
  rfl
theorem cm_open (np : Nat) (won rp : List Bool) (s : Nat) (hs : s < won.length) : openN (cmS np won rp) s = if won[s] = true then none else some s := by
  have hl : (cmS np won rp).sp.length = won.length := List.length_map ..
  unfold openN
  rw [Int.toNat_natCast, cm_get np won rp s hs, hl]
  cases won[s]
  · rw [if_pos ⟨by omega, by omega, rfl⟩]
    rfl
  · rw [if_neg (by rintro ⟨_, _, h⟩; cases h)]
    rfl
theorem cm_win (np : Nat) (won rp : List Bool) (s : Nat) (hs : s < won.length) (hw : won[s] = false) : winK (cmS np won rp) s 1 (List.replicate np 0) = cmS np (won.set s true) rp := by
  unfold winK
  rw [cm_get np won rp s hs, hw, if_neg (by decide)]
  unfold cmS
  show MaS.mk _ _ _ _ _ _ = MaS.mk _ _ _ _ _ _
  have e : (cmSp np won).set s { zeroS with won := true, att := 1, counts := List.replicate np 0 } = cmSp np (won.set s true) := by
    unfold cmSp
    rw [List.map_set]
    rfl
  rw [e]
theorem cm_up (np : Nat) (won rp : List Bool) (k : Nat) (hk : k ≤ won.length) : (winUp (cmS np won rp) k).length = (won.take k).count true := by
  induction k with
  | zero => rfl
  | succ k ih =>
    unfold winUp
    rw [cm_get np won rp k (by omega), List.take_succ_eq_append_getElem (by omega), List.count_append]
    cases hb : won[k]
    · rw [if_neg (fun h : (if false = true then wonS np else zeroS).won = true => by cases h), ih (by omega)]
      rfl
    · rw [if_pos (show (if true = true then wonS np else zeroS).won = true from rfl), List.length_append, ih (by omega)]
      rfl
theorem cm_winners (np : Nat) (won rp : List Bool) : (winners (cmS np won rp)).length = won.count true := by
  have hl : (cmS np won rp).sp.length = won.length := List.length_map ..
  unfold winners
  rw [hl, cm_up np won rp _ (Nat.le_refl _), List.take_length]
theorem count_set_new (l : List Bool) (s : Nat) (hs : s < l.length) (h : l[s] = false) : (l.set s true).count true = l.count true + 1 := by
  rw [List.count_set hs, h]
  rfl
theorem count_full (l : List Bool) : l.count true = l.length ↔ false ∉ l := by
  rw [List.count_eq_length]
  constructor
  · intro h hf
    have := h false hf
    cases this
  · intro h b hb
    cases b
    · exact absurd hb h
    · rfl
def doneX (s : Nat) (np : Nat) : MsgD := ⟨4, s, 1, 0, 0, 0, 0, 0, List.replicate np 0, []⟩
def readyX (p : Nat) : MsgD := ⟨8, 0, 0, p, 0, 0, 0, 0, [], []⟩
theorem cm_done (c : CfgD) (np : Nat) (won rp : List Bool) (s : Nat) (hs : s < won.length) (hp : c.job.parts = np) (ht : 1 ≤ c.tries) (hw : 1 ≤ c.workers) :
    hearF c (cmS np won rp) 1 (doneX s np) = if won[s] = true then (cmS np won rp, [], []) else (cmS np (won.set s true) rp, [], [⟨1, 0, s, 1, 0, List.replicate np 0, []⟩]) := by
  rw [hearF_ok c _ 1 _ (by omega) (by omega) rfl]
  have hnb : ¬ ∃ y ∈ (doneX s np).set, y < 0 ∨ 40 < y := by
    rintro ⟨y, hy, h⟩
    rw [List.eq_of_mem_replicate hy] at h
    omega
  have hlen : ((doneX s np).set.length : Int) = c.job.parts := by rw [hp]; show ((List.replicate np (0 : Int)).length : Int) = _; rw [List.length_replicate]
  unfold hearK
  rw [if_pos (show (doneX s np).k = 4 from rfl)]
  cases hb : won[s]
  · have hd : doneK c (cmS np won rp) (doneX s np) = some s := doneK_some hnb (by show ¬ (1 : Int) < 1; omega) (by show ¬ c.tries < (1 : Int); omega) hlen (by show openN _ ((s : Nat) : Int) = _; rw [cm_open np won rp s hs, hb]; rfl)
    rw [hd, if_neg (by decide)]
    show (winK (cmS np won rp) s 1 (List.replicate np 0), _, _) = _
    rw [cm_win np won rp s hs hb]
    rfl
  · have hd : doneK c (cmS np won rp) (doneX s np) = none := doneK_none (.inr (.inr (.inr (.inr (by show openN _ ((s : Nat) : Int) = _; rw [cm_open np won rp s hs, hb]; rfl)))))
    rw [hd, if_pos rfl]
theorem cm_rd (np : Nat) (won rp : List Bool) (p : Nat) (hp : p < rp.length) : rdSet (cmS np won rp) p = cmS np won (rp.set p true) := by
  unfold rdSet cmS
  show MaS.mk _ _ ((rp ++ List.replicate (4 - np) false).set p true) _ _ _ = _
  rw [List.set_append_left _ _ hp]
theorem cm_ready (c : CfgD) (np : Nat) (won rp : List Bool) (p : Nat) (hl : won.length = c.job.splits.length) (hr : rp.length = np) (hp : p < np) (hpp : c.job.parts = np) (hw : 1 ≤ c.workers) :
    hearF c (cmS np won rp) 1 (readyX p) = if won.count true < won.length then (cmS np won rp, [], []) else if (rp.set p true).count true < np then (cmS np won (rp.set p true), [], []) else (endS (cmS np won (rp.set p true)) 1 0, [], [⟨2, 0, 0, 0, 0, [], []⟩]) := by
  rw [hearF_ok c _ 1 _ (by omega) (by omega) rfl]
  unfold hearK
  rw [if_neg (show ¬ (readyX p).k = 4 from by show ¬ (8 : Int) = 4; decide), if_neg (show ¬ (readyX p).k = 5 from by show ¬ (8 : Int) = 5; decide), if_neg (show ¬ (readyX p).k = 6 from by show ¬ (8 : Int) = 6; decide), if_pos (show (readyX p).k = 8 from rfl)]
  rw [if_pos (show 0 ≤ (readyX p).p ∧ (readyX p).p < c.job.parts from ⟨by show (0 : Int) ≤ (p : Int); omega, by rw [hpp]; show (p : Int) < (np : Int); omega⟩)]
  have hsl : (cmS np won rp).sp.length = won.length := List.length_map ..
  unfold wholeF
  rw [cm_winners, hsl]
  by_cases h1 : won.count true < won.length
  · rw [if_pos h1, if_pos h1]
  · rw [if_neg h1, if_neg h1, if_neg (show ¬ (1 ≤ (readyX p).r ∧ (readyX p).r ≤ 6) from by show ¬ ((1 : Int) ≤ 0 ∧ (0 : Int) ≤ 6); omega), if_neg (show ¬ (readyX p).r ≠ 0 from by show ¬ (0 : Int) ≠ 0; simp)]
    have ep : (readyX p).p.toNat = p := by show ((p : Nat) : Int).toNat = p; omega
    rw [ep, cm_rd np won rp p (by omega), hpp, Int.toNat_natCast]
    have et : (cmS np won (rp.set p true)).rd.take np = rp.set p true := by
      show (rp.set p true ++ _).take np = _
      rw [List.take_append_of_le_length (by rw [List.length_set]; omega), List.take_of_length_le (by rw [List.length_set]; omega)]
    rw [et]
    have hle := List.count_le_length (a := true) (l := rp.set p true)
    rw [List.length_set] at hle
    by_cases h2 : (rp.set p true).count true < np
    · rw [if_pos (by
        refine Classical.byContradiction (fun h => ?_)
        have := (count_full (rp.set p true)).2 h
        rw [List.length_set] at this
        omega), if_pos h2]
    · rw [if_neg ((count_full (rp.set p true)).1 (by rw [List.length_set]; omega)), if_neg h2]
end Go.Proofs.Ytbnhhlahbhjogaa.K
