/- The master keeps: the plain law. -/
import Derived.Test.YtbnhhlahbhjogaaY20
set_option linter.unusedVariables false
set_option linter.unusedSimpArgs false
set_option maxRecDepth 100000
namespace Go.Proofs.Ytbnhhlahbhjogaa.K
open Go.RowKit Go.Proofs.YtbnhhlahbhjogaaW.PrintWords Go.Proofs.YtbnhhlahbhjogaaW.PrintLast Go.Proofs.YtbnhhlahbhjogaaW.PrintMore Go.Proofs.Ytbnhhlahbhjogaa.U Go.Proofs.Ytbnhhlahbhjogaa.T

/-- An act of a master. -/
def stepM (c : CfgD) (m : MaS) (a : MActD) : MaS × List RecD :=
  if a.op = 0 then ({ m with now := min (m.now + 1) 1099511627776 }, []) else if a.op = 1 then ((wakeF c m).1, [])
  else if a.op = 2 then ((hearF c m a.fr a.m).1, (hearF c m a.fr a.m).2.2) else (m, [])
theorem getD_set (l : List SpS) (k j : Nat) (x : SpS) : (l.set k x).getD j zeroS = if j = k ∧ k < l.length then x else l.getD j zeroS := by
  rw [List.getD_eq_getElem?_getD, List.getD_eq_getElem?_getD]
  by_cases h : j = k
  · subst h
    by_cases hk : j < l.length
    · rw [if_pos ⟨rfl, hk⟩, List.getElem?_set_self hk]; rfl
    · rw [if_neg (fun h => hk h.2), List.getElem?_eq_none (by rw [List.length_set]; omega), List.getElem?_eq_none (by omega)]
  · rw [if_neg (fun hh => h hh.1), List.getElem?_set_ne (fun e => h e.symm)]
/-- Two masters alike in who won, and in the state. -/
structure Like (m m' : MaS) : Prop where
  len : m'.sp.length = m.sp.length
  won : ∀ k, (m'.sp.getD k zeroS).won = (m.sp.getD k zeroS).won
  att : ∀ k, (m'.sp.getD k zeroS).att = (m.sp.getD k zeroS).att
  st : m'.st = m.st
  why : m'.why = m.why
theorem Like.refl (m : MaS) : Like m m := ⟨rfl, fun _ => rfl, fun _ => rfl, rfl, rfl⟩
/-- What the records tell is the master. -/
structure KpI (c : CfgD) (m n : MaS) : Prop where
  like : Like m n
  fine : m.st = 0 → m.why = 0
  may : ∀ k, (m.sp.getD k zeroS).won = true → 1 ≤ (m.sp.getD k zeroS).att ∧ (m.sp.getD k zeroS).att ≤ c.tries
  now : n.now = 0
theorem KpI.to {c : CfgD} {m m' n : MaS} (h : KpI c m n) (l : Like m m') : KpI c m' n where
  like := ⟨by rw [h.like.len, l.len], fun k => by rw [h.like.won, l.won], fun k => by rw [h.like.att, l.att], by rw [h.like.st, l.st], by rw [h.like.why, l.why]⟩
  fine := by rw [l.st, l.why]; exact h.fine
  may k := by rw [l.won, l.att]; exact h.may k
  now := h.now
theorem KpI.m0 (c : CfgD) : KpI c (m0 c) (newF c []) where
  like := Like.refl _
  fine _ := rfl
  may k h := by
    exfalso
    have : (List.replicate c.job.splits.length zeroS).getD k zeroS = zeroS := by
      rw [List.getD_eq_getElem?_getD, List.getElem?_replicate]
      split <;> rfl
    rw [show (K.m0 c).sp.getD k zeroS = zeroS from this] at h
    cases h
  now := rfl
theorem openN_like {m n : MaS} (h : Like m n) (x : Int) : openN n x = openN m x := by
  unfold openN
  rw [h.len, h.won]
theorem openN_some {m : MaS} {x : Int} {k : Nat} (h : openN m x = some k) : k < m.sp.length ∧ (m.sp.getD k zeroS).won = false ∧ x = k := by
  unfold openN at h
  split at h
  · rename_i hh
    injection h with h
    subst h
    exact ⟨by omega, hh.2.2, by omega⟩
  · cases h
theorem win_like {m n : MaS} (h : Like m n) (k : Nat) (a : Int) (l : List Int) : Like (winK m k a l) (winK n k a l) where
  len := by show (n.sp.set _ _).length = (m.sp.set _ _).length; rw [List.length_set, List.length_set, h.len]
  won j := by
    show ((n.sp.set k _).getD j zeroS).won = ((m.sp.set k _).getD j zeroS).won
    rw [getD_set, getD_set, h.len]
    by_cases hj : j = k ∧ k < m.sp.length
    · rw [if_pos hj, if_pos hj]
    · rw [if_neg hj, if_neg hj, h.won]
  att j := by
    show ((n.sp.set k _).getD j zeroS).att = ((m.sp.set k _).getD j zeroS).att
    rw [getD_set, getD_set, h.len]
    by_cases hj : j = k ∧ k < m.sp.length
    · rw [if_pos hj, if_pos hj]
    · rw [if_neg hj, if_neg hj, h.att]
  st := h.st
  why := h.why
theorem KpI.win {c : CfgD} {m n : MaS} (h : KpI c m n) (k : Nat) (a : Int) (l : List Int) (ha : 1 ≤ a) (hb : a ≤ c.tries) : KpI c (winK m k a l) (winK n k a l) where
  like := win_like h.like k a l
  fine := h.fine
  may j := by
    show ((m.sp.set k _).getD j zeroS).won = true → 1 ≤ ((m.sp.set k _).getD j zeroS).att ∧ ((m.sp.set k _).getD j zeroS).att ≤ c.tries
    rw [getD_set]
    by_cases hj : j = k ∧ k < m.sp.length
    · rw [if_pos hj]
      exact fun _ => ⟨ha, hb⟩
    · rw [if_neg hj]
      exact h.may j
  now := h.now
theorem KpI.ends {c : CfgD} {m n : MaS} (h : KpI c m n) (st why : Int) (hs : st ≠ 0) : KpI c (endS m st why) (endS n st why) where
  like := ⟨h.like.len, h.like.won, h.like.att, rfl, rfl⟩
  fine e := absurd e hs
  may := h.may
  now := h.now
theorem wakeUp_like (c : CfgD) (m : MaS) (k : Nat) : Like m (wakeUp c m k).1 := by
  induction k with
  | zero => exact Like.refl m
  | succ k ih =>
    have hg := wakeUp_get c m k k (Nat.le_refl _)
    unfold wakeUp
    split
    · exact ih
    · have key : ∀ j, (((wakeUp c m k).1.sp.set k (wakeSp c m.now (m.sp.getD k zeroS))).getD j zeroS).won = (m.sp.getD j zeroS).won ∧ (((wakeUp c m k).1.sp.set k (wakeSp c m.now (m.sp.getD k zeroS))).getD j zeroS).att = (m.sp.getD j zeroS).att := fun j => by
        rw [getD_set]
        by_cases hj : j = k ∧ k < (wakeUp c m k).1.sp.length
        · rw [if_pos hj, hj.1]
          exact ⟨rfl, rfl⟩
        · rw [if_neg hj]
          exact ⟨ih.won j, ih.att j⟩
      exact ⟨by show (List.set _ _ _).length = _; rw [List.length_set]; exact ih.len, fun j => (key j).1, fun j => (key j).2, ih.st, ih.why⟩
theorem wake_like (c : CfgD) (m : MaS) : Like m (wakeF c m).1 := by
  unfold wakeF
  split
  · exact wakeUp_like c m _
  · exact Like.refl m
theorem rd_like (m : MaS) (k : Nat) : Like m (rdSet m k) := ⟨rfl, fun _ => rfl, fun _ => rfl, rfl, rfl⟩
theorem hello_like (c : CfgD) (m : MaS) (frm : Int) (x : MsgD) : Like m (helloF c m frm x).1 := by
  unfold helloF
  split
  · exact Like.refl m
  · exact ⟨rfl, fun _ => rfl, fun _ => rfl, rfl, rfl⟩
theorem doneK_is {c : CfgD} {m : MaS} {x : MsgD} {k : Nat} (h : doneK c m x = some k) : 1 ≤ x.a ∧ x.a ≤ c.tries ∧ (x.set.length : Int) = c.job.parts ∧ openN m x.s = some k := by
  unfold doneK at h
  split at h
  · cases h
  · rename_i hh
    refine ⟨by have : ¬ x.a < 1 := fun h => hh (.inr (.inl h)); omega, by have : ¬ c.tries < x.a := fun h => hh (.inr (.inr (.inl h))); omega, ?_, h⟩
    exact Classical.byContradiction fun h => hh (.inr (.inr (.inr h)))
theorem recF_won (c : CfgD) (n : MaS) (s a : Int) (l : List Int) (k : Nat) (hl : (l.length : Int) = c.job.parts) (h1 : 1 ≤ a) (h2 : a ≤ c.tries) (ho : openN n s = some k) : recF c n ⟨1, 0, s, a, 0, l, []⟩ = winK n k a l := by
  unfold recF
  rw [if_pos rfl, if_pos ⟨hl, h1, h2⟩]
  dsimp only
  rw [ho]
theorem recF_over (c : CfgD) (n : MaS) (p s a r : Int) (h : n.st = 0) : recF c n ⟨3, p, s, a, r, [], []⟩ = endS n 2 r := by
  unfold recF
  rw [if_neg (show ¬ (3 : Int) = 1 by decide), if_neg (show ¬ (3 : Int) = 2 by decide), if_pos rfl, if_pos h]
theorem recF_commit (c : CfgD) (n : MaS) (h : n.st = 0) (hw : n.why = 0) : recF c n ⟨2, 0, 0, 0, 0, [], []⟩ = endS n 1 0 := by
  unfold recF
  rw [if_neg (by decide), if_pos rfl, if_pos h]
  unfold endS
  rw [← hw]
theorem KpI.hear {c : CfgD} {m n : MaS} (h : KpI c m n) (frm : Int) (x : MsgD) : KpI c (hearF c m frm x).1 ((hearF c m frm x).2.2.foldl (recF c) n) := by
  unfold hearF
  split
  · exact h
  · split
    · exact h
    · rename_i hst
      have hs0 : m.st = 0 := Classical.byContradiction hst
      have hn0 : n.st = 0 := by rw [h.like.st]; exact hs0
      have hnw : n.why = 0 := by rw [h.like.why]; exact h.fine hs0
      unfold hearK
      split
      · cases hd : doneK c m x with
        | none => exact h
        | some k =>
          obtain ⟨h1, h2, h3, h4⟩ := doneK_is hd
          show KpI c (winK m k x.a x.set) (recF c n ⟨1, 0, x.s, x.a, 0, x.set, []⟩)
          rw [recF_won c n x.s x.a x.set k h3 h1 h2 (by rw [openN_like h.like]; exact h4)]
          exact h.win k x.a x.set h1 h2
      · split
        · split
          · show KpI c (endS m 2 x.r) (recF c n ⟨3, 0, x.s, 0, x.r, [], []⟩)
            rw [recF_over c n 0 x.s 0 x.r hn0]
            exact h.ends 2 x.r (by decide)
          · exact h
        · split
          · split
            · exact h.to (hello_like c m frm x)
            · exact h
          · split
            · split
              · show KpI c (wholeF c m x).1 ((wholeF c m x).2.foldl (recF c) n)
                unfold wholeF
                split
                · exact h
                · split
                  · show KpI c (endS m 2 x.r) (recF c n ⟨3, x.p, 0, 1, x.r, [], []⟩)
                    rw [recF_over c n x.p 0 1 x.r hn0]
                    exact h.ends 2 x.r (by decide)
                  · split
                    · exact h
                    · split
                      · exact h.to (rd_like m _)
                      · show KpI c (endS (rdSet m x.p.toNat) 1 0) (recF c n ⟨2, 0, 0, 0, 0, [], []⟩)
                        rw [recF_commit c n hn0 hnw]
                        exact (h.to (rd_like m _)).ends 1 0 (by decide)
              · exact h
            · exact h
theorem KpI.step {c : CfgD} {m n : MaS} (h : KpI c m n) (a : MActD) : KpI c (stepM c m a).1 ((stepM c m a).2.foldl (recF c) n) := by
  unfold stepM
  split
  · exact h.to ⟨rfl, fun _ => rfl, fun _ => rfl, rfl, rfl⟩
  · split
    · exact h.to (wake_like c m)
    · split
      · exact h.hear a.fr a.m
      · exact h
theorem newF_app (c : CfgD) (rs qs : List RecD) : newF c (rs ++ qs) = qs.foldl (recF c) (newF c rs) := List.foldl_append
/-- What a step keeps. -/
structure Kept1 (m m' : MaS) : Prop where
  len : m'.sp.length = m.sp.length
  won : ∀ k, (m.sp.getD k zeroS).won = true → (m'.sp.getD k zeroS).won = true ∧ (m'.sp.getD k zeroS).att = (m.sp.getD k zeroS).att
  st : m.st ≠ 0 → m'.st = m.st ∧ m'.why = m.why
theorem Kept1.of {m m' : MaS} (h : Like m m') : Kept1 m m' := ⟨h.len, fun k hk => ⟨by rw [h.won]; exact hk, h.att k⟩, fun _ => ⟨h.st, h.why⟩⟩
theorem kept_win (m : MaS) (k : Nat) (a : Int) (l : List Int) (hk : (m.sp.getD k zeroS).won = false) : Kept1 m (winK m k a l) where
  len := List.length_set ..
  won j hj := by
    show ((m.sp.set k _).getD j zeroS).won = true ∧ ((m.sp.set k _).getD j zeroS).att = _
    rw [getD_set]
    by_cases hh : j = k ∧ k < m.sp.length
    · rw [hh.1, hk] at hj
      cases hj
    · rw [if_neg hh]
      exact ⟨hj, rfl⟩
  st _ := ⟨rfl, rfl⟩
theorem kept_hear (c : CfgD) (m : MaS) (frm : Int) (x : MsgD) : Kept1 m (hearF c m frm x).1 := by
  have h0 := Kept1.of (Like.refl m)
  unfold hearF
  split
  · exact h0
  · split
    · exact h0
    · rename_i hst
      have hs0 : m.st = 0 := Classical.byContradiction hst
      have hE : ∀ m1 st why, Like m m1 → Kept1 m (endS m1 st why) := fun m1 st why hl => ⟨hl.len, (Kept1.of hl).won, fun h => absurd hs0 h⟩
      unfold hearK
      split
      · cases hd : doneK c m x with
        | none => exact h0
        | some k => exact kept_win m k _ _ (openN_some (doneK_is hd).2.2.2).2.1
      · split
        · split
          · exact hE m 2 x.r (Like.refl m)
          · exact h0
        · split
          · split
            · exact Kept1.of (hello_like c m frm x)
            · exact h0
          · split
            · split
              · show Kept1 m (wholeF c m x).1
                unfold wholeF
                split
                · exact h0
                · split
                  · exact hE m 2 x.r (Like.refl m)
                  · split
                    · exact h0
                    · split
                      · exact Kept1.of (rd_like m _)
                      · exact hE _ 1 0 (rd_like m _)
              · exact h0
            · exact h0
theorem kept_step (c : CfgD) (m : MaS) (a : MActD) : Kept1 m (stepM c m a).1 := by
  unfold stepM
  split
  · exact ⟨rfl, fun _ h => ⟨h, rfl⟩, fun _ => ⟨rfl, rfl⟩⟩
  · split
    · exact Kept1.of (wake_like c m)
    · split
      · exact kept_hear c m a.fr a.m
      · exact Kept1.of (Like.refl m)
theorem winV_nat (m : MaS) (k : Nat) (hk : k < m.sp.length) : winV m k = if (m.sp.getD k zeroS).won = true then ((m.sp.getD k zeroS).att, true) else (0, false) := by
  unfold winV
  rw [Int.toNat_natCast]
  by_cases h : (m.sp.getD k zeroS).won = true
  · rw [if_pos ⟨by omega, by omega, h⟩, if_pos h]
  · rw [if_neg (fun hh => h hh.2.2), if_neg h]
/-- A winner stays. -/
theorem winV_stays {m m' : MaS} (h : Kept1 m m') (k : Nat) (hk : k < m.sp.length) (hp : 0 < (winV m k).1) : winV m' k = ((winV m k).1, true) := by
  rw [winV_nat m k hk] at hp ⊢
  rw [winV_nat m' k (by rw [h.len]; exact hk)]
  by_cases hw : (m.sp.getD k zeroS).won = true
  · obtain ⟨h1, h2⟩ := h.won k hw
    rw [if_pos hw, if_pos h1, h2]
  · rw [if_neg hw] at hp
    exact absurd hp (by decide)
theorem winV_most {c : CfgD} {m n : MaS} (h : KpI c m n) (k : Nat) (hk : k < m.sp.length) (ht : 1 ≤ c.tries) : (winV m k).1 ≤ c.tries := by
  rw [winV_nat m k hk]
  by_cases hw : (m.sp.getD k zeroS).won = true
  · rw [if_pos hw]
    exact (h.may k hw).2
  · rw [if_neg hw]
    show (0 : Int) ≤ _
    omega
theorem winV_like {m n : MaS} (h : Like m n) (k : Int) : winV n k = winV m k := by
  unfold winV
  rw [h.len, h.won, h.att]
theorem winUp_like {m n : MaS} (h : Like m n) (k : Nat) : winUp n k = winUp m k := by
  induction k with
  | zero => rfl
  | succ k ih =>
    unfold winUp
    rw [h.won, ih]
theorem winners_like {m n : MaS} (h : Like m n) : winners n = winners m := by
  unfold winners
  rw [h.len]
  exact winUp_like h _
theorem winners_len (m : MaS) : (winners m).length ≤ m.sp.length := winUp_len m _

/-! ### bounds -/
theorem wakeUp_mem (c : CfgD) (m : MaS) (k : Nat) (hk : k ≤ m.sp.length) (s : SpS) (hs : s ∈ (wakeUp c m k).1.sp) : s ∈ m.sp ∨ ∃ s0 ∈ m.sp, s = wakeSp c m.now s0 := by
  induction k generalizing s with
  | zero => exact .inl hs
  | succ k ih =>
    unfold wakeUp at hs
    split at hs
    · exact ih (by omega) s hs
    · rcases List.mem_or_eq_of_mem_set hs with h | h
      · exact ih (by omega) s h
      · exact .inr ⟨_, getD_mem_or _ _ (by omega), h⟩
theorem MaB.le {m : MaS} {B B' : Int} (h : MaB m B) (hb : B ≤ B') : MaB m B' :=
  ⟨h.n0, h.n1, h.r0, Int.le_trans h.r1 hb, h.a0, fun s hs => Int.le_trans (h.a1 s hs) hb, h.t0, h.t1, h.l0, h.l1⟩
theorem MaB.wake {m : MaS} {B : Int} (c : CfgD) (h : MaB m B) (h1 : 1 ≤ c.tries) (h3 : c.tries ≤ 3) : MaB (wakeF c m).1 (B + 1) := by
  have hl := h.le (B' := B + 1) (by omega)
  unfold wakeF
  split
  · obtain ⟨e1, e2, e3, e4, e5, e6⟩ := wakeUp_same c m m.sp.length
    have hm := fun s hs => wakeUp_mem c m m.sp.length (Nat.le_refl _) s hs
    constructor
    · rw [e1]; exact hl.n0
    · rw [e1]; exact hl.n1
    · rw [e6]; exact hl.r0
    · rw [e6]; exact hl.r1
    all_goals
      intro s hs
      rcases hm s hs with hh | ⟨s0, hh, rfl⟩
    · exact hl.a0 s hh
    · show 0 ≤ s0.asked + 1; have := h.a0 s0 hh; omega
    · exact hl.a1 s hh
    · show s0.asked + 1 ≤ B + 1; have := h.a1 s0 hh; omega
    · exact hl.t0 s hh
    · show 0 ≤ min (s0.tr + 1) c.tries; have := h.t0 s0 hh; omega
    · exact hl.t1 s hh
    · show min (s0.tr + 1) c.tries ≤ 4; omega
    · exact hl.l0 s hh
    · show 0 ≤ m.now; exact h.n0
    · exact hl.l1 s hh
    · show m.now ≤ _; exact h.n1
  · exact hl
theorem MaB.win {m : MaS} {B : Int} (h : MaB m B) (k : Nat) (hk : k < m.sp.length) (a : Int) (l : List Int) : MaB (winK m k a l) B := by
  have hg := getD_mem_or m.sp k hk
  constructor
  · exact h.n0
  · exact h.n1
  · exact h.r0
  · exact h.r1
  all_goals
    intro s hs
    rcases List.mem_or_eq_of_mem_set hs with hh | rfl
  · exact h.a0 s hh
  · show 0 ≤ (m.sp.getD k zeroS).asked; exact h.a0 _ hg
  · exact h.a1 s hh
  · show (m.sp.getD k zeroS).asked ≤ B; exact h.a1 _ hg
  · exact h.t0 s hh
  · show 0 ≤ (m.sp.getD k zeroS).tr; exact h.t0 _ hg
  · exact h.t1 s hh
  · show (m.sp.getD k zeroS).tr ≤ 4; exact h.t1 _ hg
  · exact h.l0 s hh
  · show 0 ≤ (m.sp.getD k zeroS).at_; exact h.l0 _ hg
  · exact h.l1 s hh
  · show (m.sp.getD k zeroS).at_ ≤ 1099511627776; exact h.l1 _ hg
theorem MaB.hear {m : MaS} {B : Int} (c : CfgD) (frm : Int) (x : MsgD) (h : MaB m B) : MaB (hearF c m frm x).1 (B + 1) := by
  have hl := h.le (B' := B + 1) (by omega)
  have hE : ∀ st why, MaB (endS m st why) (B + 1) := fun st why => ⟨hl.n0, hl.n1, hl.r0, hl.r1, hl.a0, hl.a1, hl.t0, hl.t1, hl.l0, hl.l1⟩
  have hR : ∀ k, MaB (rdSet m k) (B + 1) := fun k => ⟨hl.n0, hl.n1, hl.r0, hl.r1, hl.a0, hl.a1, hl.t0, hl.t1, hl.l0, hl.l1⟩
  unfold hearF
  split
  · exact hl
  · split
    · exact hl
    · unfold hearK
      split
      · cases hd : doneK c m x with
        | none => exact hl
        | some k => exact hl.win k (openN_some (doneK_is hd).2.2.2).1 _ _
      · split
        · split
          · exact hE 2 x.r
          · exact hl
        · split
          · split
            · show MaB (helloF c m frm x).1 (B + 1)
              unfold helloF
              split
              · exact hl
              · exact ⟨hl.n0, hl.n1, by show 0 ≤ m.round + 1; have := h.r0; omega, by show m.round + 1 ≤ B + 1; have := h.r1; omega, hl.a0, hl.a1, hl.t0, hl.t1, hl.l0, hl.l1⟩
            · exact hl
          · split
            · split
              · show MaB (wholeF c m x).1 (B + 1)
                unfold wholeF
                split
                · exact hl
                · split
                  · exact hE 2 x.r
                  · split
                    · exact hl
                    · split
                      · exact hR _
                      · have hr := hR x.p.toNat
                        exact ⟨hr.n0, hr.n1, hr.r0, hr.r1, hr.a0, hr.a1, hr.t0, hr.t1, hr.l0, hr.l1⟩
              · exact hl
            · exact hl
theorem MaB.step {m : MaS} {B : Int} (c : CfgD) (a : MActD) (h : MaB m B) (h1 : 1 ≤ c.tries) (h3 : c.tries ≤ 3) : MaB (stepM c m a).1 (B + 1) := by
  have hl := h.le (B' := B + 1) (by omega)
  unfold stepM
  split
  · exact ⟨by show 0 ≤ min (m.now + 1) _; have := h.n0; omega, by show min (m.now + 1) _ ≤ _; omega, hl.r0, hl.r1, hl.a0, hl.a1, hl.t0, hl.t1, hl.l0, hl.l1⟩
  · split
    · exact h.wake c h1 h3
    · split
      · exact h.hear c a.fr a.m
      · exact hl
theorem MaB.m0 (c : CfgD) : MaB (m0 c) 0 := by
  constructor
  · show (0 : Int) ≤ 0; omega
  · show (0 : Int) ≤ 1099511627776; omega
  · show (0 : Int) ≤ 0; omega
  · show (0 : Int) ≤ 0; omega
  all_goals
    intro s hs
    rw [List.eq_of_mem_replicate hs]
    show (_ : Int) ≤ _
    decide
/-- A master's records are one or none, without pairs, of a set that may be. -/
theorem hear_recs (c : CfgD) (m : MaS) (frm : Int) (x : MsgD) : (hearF c m frm x).2.2.length ≤ 1 := by
  unfold hearF
  split
  · exact Nat.zero_le _
  · split
    · exact Nat.zero_le _
    · unfold hearK
      split
      · cases doneK c m x with
        | none => exact Nat.zero_le _
        | some k => exact Nat.le_refl _
      · split
        · split
          · exact Nat.le_refl _
          · exact Nat.zero_le _
        · split
          · split <;> exact Nat.zero_le _
          · split
            · split
              · show (wholeF c m x).2.length ≤ 1
                unfold wholeF
                split
                · exact Nat.zero_le _
                · split
                  · exact Nat.le_refl _
                  · split
                    · exact Nat.zero_le _
                    · split
                      · exact Nat.zero_le _
                      · exact Nat.le_refl _
              · exact Nat.zero_le _
            · exact Nat.zero_le _
theorem step_recs (c : CfgD) (m : MaS) (a : MActD) : (stepM c m a).2.length ≤ 1 := by
  unfold stepM
  split
  · exact Nat.zero_le _
  · split
    · exact Nat.zero_le _
    · split
      · exact hear_recs c m a.fr a.m
      · exact Nat.zero_le _
/-- The master behind some acts, and its records. -/
def runM (c : CfgD) (acts : List MActD) : Nat → MaS × List RecD
  | 0 => (m0 c, [])
  | k + 1 => ((stepM c (runM c acts k).1 (acts.getD k ⟨3, 0, ⟨0, 0, 0, 0, 0, 0, 0, 0, [], []⟩⟩)).1, (runM c acts k).2 ++ (stepM c (runM c acts k).1 (acts.getD k ⟨3, 0, ⟨0, 0, 0, 0, 0, 0, 0, 0, [], []⟩⟩)).2)
theorem runM_succ (c : CfgD) (acts : List MActD) (k : Nat) (h : k < acts.length) : runM c acts (k + 1) = ((stepM c (runM c acts k).1 acts[k]).1, (runM c acts k).2 ++ (stepM c (runM c acts k).1 acts[k]).2) := by
  show (_, _) = _
  rw [show acts.getD k ⟨3, 0, ⟨0, 0, 0, 0, 0, 0, 0, 0, [], []⟩⟩ = acts[k] from by rw [List.getD_eq_getElem?_getD, List.getElem?_eq_getElem h]; rfl]
theorem runM_kp (c : CfgD) (acts : List MActD) (k : Nat) : KpI c (runM c acts k).1 (newF c (runM c acts k).2) := by
  induction k with
  | zero => exact KpI.m0 c
  | succ k ih =>
    show KpI c (stepM c _ _).1 (newF c (_ ++ _))
    rw [newF_app]
    exact ih.step _
theorem runM_b (c : CfgD) (acts : List MActD) (h1 : 1 ≤ c.tries) (h3 : c.tries ≤ 3) (k : Nat) : MaB (runM c acts k).1 (k : Int) := by
  induction k with
  | zero => exact MaB.m0 c
  | succ k ih =>
    have := ih.step c (acts.getD k ⟨3, 0, ⟨0, 0, 0, 0, 0, 0, 0, 0, [], []⟩⟩) h1 h3
    rw [show ((k + 1 : Nat) : Int) = (k : Int) + 1 from by omega]
    exact this
theorem runM_recs (c : CfgD) (acts : List MActD) (k : Nat) : (runM c acts k).2.length ≤ k := by
  induction k with
  | zero => exact Nat.le_refl _
  | succ k ih =>
    show (_ ++ _ : List RecD).length ≤ _
    rw [List.length_append]
    have := step_recs c (runM c acts k).1 (acts.getD k ⟨3, 0, ⟨0, 0, 0, 0, 0, 0, 0, 0, [], []⟩⟩)
    omega
theorem runM_len (c : CfgD) (acts : List MActD) (k : Nat) : (runM c acts k).1.sp.length = c.job.splits.length := by
  induction k with
  | zero => exact List.length_replicate ..
  | succ k ih => rw [← ih]; exact (kept_step c _ _).len
end Go.Proofs.Ytbnhhlahbhjogaa.K
