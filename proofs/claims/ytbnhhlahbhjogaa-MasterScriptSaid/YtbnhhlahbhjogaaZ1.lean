/- The master keeps: the plain law. Is there more than is gone through? Lists of records that grow. WRITTEN BY wip/gen_y29.py. What is written over, told sharper; the document's master: what it holds; has, Tick, Winners. WRITTEN BY wip/gen_y31.py. The document's master: Wake. WRITTEN BY wip/gen_y32.py. The document's master: done. WRITTEN BY wip/gen_y33.py. (JOINED BY wip/merge.py.) -/
import Derived.Test.YtbnhhlahbhjogaaY20
set_option linter.unusedVariables false
set_option linter.unusedSimpArgs false
set_option maxRecDepth 100000
namespace Go.Proofs.Ytbnhhlahbhjogaa.K
open Go.RowKit Go.Proofs.YtbnhhlahbhjogaaW.PrintWords Go.Proofs.YtbnhhlahbhjogaaW.PrintLast Go.Proofs.YtbnhhlahbhjogaaW.PrintMore Go.Proofs.Ytbnhhlahbhjogaa.U Go.Proofs.Ytbnhhlahbhjogaa.T

/-- An act of a master. -/
def stepM (c : CfgD) (m : MaS) (a : MActD) : MaS × List RecD :=
  if a.op = 0 then ({ m with now := min (m.now + 1) 1099511627776 }, []) else if a.op = 1 then ((wakeF c m).1, [])
  else if a.op = 2 then ((hearF c m a.fr a.m).1, (hearF c m a.fr a.m).2.2) else (m, [])
theorem getD_set (l : List SpS) (k j : Nat) (x : SpS) : (l.set k x).getD j zeroS = if j = k ∧ k < l.length then x else l.getD j zeroS := by
  rw [List.getD_eq_getElem?_getD, List.getD_eq_getElem?_getD]
  by_cases h : j = k
  · subst h
    by_cases hk : j < l.length
    · rw [if_pos ⟨rfl, hk⟩, List.getElem?_set_self hk]; rfl
    · rw [if_neg (fun h => hk h.2), List.getElem?_eq_none (by rw [List.length_set]; omega), List.getElem?_eq_none (by omega)]
  · rw [if_neg (fun hh => h hh.1), List.getElem?_set_ne (fun e => h e.symm)]
/-- Two masters alike in who won, and in the state. -/
structure Like (m m' : MaS) : Prop where
  len : m'.sp.length = m.sp.length
  won : ∀ k, (m'.sp.getD k zeroS).won = (m.sp.getD k zeroS).won
  att : ∀ k, (m'.sp.getD k zeroS).att = (m.sp.getD k zeroS).att
  st : m'.st = m.st
  why : m'.why = m.why
theorem Like.refl (m : MaS) : Like m m := ⟨rfl, fun _ => rfl, fun _ => rfl, rfl, rfl⟩
/-- What the records tell is the master. -/
structure KpI (c : CfgD) (m n : MaS) : Prop where
  like : Like m n
  fine : m.st = 0 → m.why = 0
  may : ∀ k, (m.sp.getD k zeroS).won = true → 1 ≤ (m.sp.getD k zeroS).att ∧ (m.sp.getD k zeroS).att ≤ c.tries
  now : n.now = 0
theorem KpI.to {c : CfgD} {m m' n : MaS} (h : KpI c m n) (l : Like m m') : KpI c m' n where
  like := ⟨by rw [h.like.len, l.len], fun k => by rw [h.like.won, l.won], fun k => by rw [h.like.att, l.att], by rw [h.like.st, l.st], by rw [h.like.why, l.why]⟩
  fine := by rw [l.st, l.why]; exact h.fine
  may k := by rw [l.won, l.att]; exact h.may k
  now := h.now
theorem KpI.m0 (c : CfgD) : KpI c (m0 c) (newF c []) where
  like := Like.refl _
  fine _ := rfl
  may k h := by
    exfalso
    have : (List.replicate c.job.splits.length zeroS).getD k zeroS = zeroS := by
      rw [List.getD_eq_getElem?_getD, List.getElem?_replicate]
      split <;> rfl
    rw [show (K.m0 c).sp.getD k zeroS = zeroS from this] at h
    cases h
  now := rfl
theorem openN_like {m n : MaS} (h : Like m n) (x : Int) : openN n x = openN m x := by
  unfold openN
  rw [h.len, h.won]
theorem openN_some {m : MaS} {x : Int} {k : Nat} (h : openN m x = some k) : k < m.sp.length ∧ (m.sp.getD k zeroS).won = false ∧ x = k := by
  unfold openN at h
  split at h
  · rename_i hh
    injection h with h
    subst h
    exact ⟨by omega, hh.2.2, by omega⟩
  · cases h
theorem win_like {m n : MaS} (h : Like m n) (k : Nat) (a : Int) (l : List Int) : Like (winK m k a l) (winK n k a l) where
  len := by show (n.sp.set _ _).length = (m.sp.set _ _).length; rw [List.length_set, List.length_set, h.len]
  won j := by
    show ((n.sp.set k _).getD j zeroS).won = ((m.sp.set k _).getD j zeroS).won
    rw [getD_set, getD_set, h.len]
    by_cases hj : j = k ∧ k < m.sp.length
    · rw [if_pos hj, if_pos hj]
    · rw [if_neg hj, if_neg hj, h.won]
  att j := by
    show ((n.sp.set k _).getD j zeroS).att = ((m.sp.set k _).getD j zeroS).att
    rw [getD_set, getD_set, h.len]
    by_cases hj : j = k ∧ k < m.sp.length
    · rw [if_pos hj, if_pos hj]
    · rw [if_neg hj, if_neg hj, h.att]
  st := h.st
  why := h.why
theorem KpI.win {c : CfgD} {m n : MaS} (h : KpI c m n) (k : Nat) (a : Int) (l : List Int) (ha : 1 ≤ a) (hb : a ≤ c.tries) : KpI c (winK m k a l) (winK n k a l) where
  like := win_like h.like k a l
  fine := h.fine
  may j := by
    show ((m.sp.set k _).getD j zeroS).won = true → 1 ≤ ((m.sp.set k _).getD j zeroS).att ∧ ((m.sp.set k _).getD j zeroS).att ≤ c.tries
    rw [getD_set]
    by_cases hj : j = k ∧ k < m.sp.length
    · rw [if_pos hj]
      exact fun _ => ⟨ha, hb⟩
    · rw [if_neg hj]
      exact h.may j
  now := h.now
theorem KpI.ends {c : CfgD} {m n : MaS} (h : KpI c m n) (st why : Int) (hs : st ≠ 0) : KpI c (endS m st why) (endS n st why) where
  like := ⟨h.like.len, h.like.won, h.like.att, rfl, rfl⟩
  fine e := absurd e hs
  may := h.may
  now := h.now
theorem wakeUp_like (c : CfgD) (m : MaS) (k : Nat) : Like m (wakeUp c m k).1 := by
  induction k with
  | zero => exact Like.refl m
  | succ k ih =>
    have hg := wakeUp_get c m k k (Nat.le_refl _)
    unfold wakeUp
    split
    · exact ih
    · have key : ∀ j, (((wakeUp c m k).1.sp.set k (wakeSp c m.now (m.sp.getD k zeroS))).getD j zeroS).won = (m.sp.getD j zeroS).won ∧ (((wakeUp c m k).1.sp.set k (wakeSp c m.now (m.sp.getD k zeroS))).getD j zeroS).att = (m.sp.getD j zeroS).att := fun j => by
        rw [getD_set]
        by_cases hj : j = k ∧ k < (wakeUp c m k).1.sp.length
        · rw [if_pos hj, hj.1]
          exact ⟨rfl, rfl⟩
        · rw [if_neg hj]
          exact ⟨ih.won j, ih.att j⟩
      exact ⟨by show (List.set _ _ _).length = _; rw [List.length_set]; exact ih.len, fun j => (key j).1, fun j => (key j).2, ih.st, ih.why⟩
theorem wake_like (c : CfgD) (m : MaS) : Like m (wakeF c m).1 := by
  unfold wakeF
  split
  · exact wakeUp_like c m _
  · exact Like.refl m
theorem rd_like (m : MaS) (k : Nat) : Like m (rdSet m k) := ⟨rfl, fun _ => rfl, fun _ => rfl, rfl, rfl⟩
theorem hello_like (c : CfgD) (m : MaS) (frm : Int) (x : MsgD) : Like m (helloF c m frm x).1 := by
  unfold helloF
  split
  · exact Like.refl m
  · exact ⟨rfl, fun _ => rfl, fun _ => rfl, rfl, rfl⟩
theorem doneK_is {c : CfgD} {m : MaS} {x : MsgD} {k : Nat} (h : doneK c m x = some k) : 1 ≤ x.a ∧ x.a ≤ c.tries ∧ (x.set.length : Int) = c.job.parts ∧ openN m x.s = some k := by
  unfold doneK at h
  split at h
  · cases h
  · rename_i hh
    refine ⟨by have : ¬ x.a < 1 := fun h => hh (.inr (.inl h)); omega, by have : ¬ c.tries < x.a := fun h => hh (.inr (.inr (.inl h))); omega, ?_, h⟩
    exact Classical.byContradiction fun h => hh (.inr (.inr (.inr h)))
theorem recF_won (c : CfgD) (n : MaS) (s a : Int) (l : List Int) (k : Nat) (hl : (l.length : Int) = c.job.parts) (h1 : 1 ≤ a) (h2 : a ≤ c.tries) (ho : openN n s = some k) : recF c n ⟨1, 0, s, a, 0, l, []⟩ = winK n k a l := by
  unfold recF
  rw [if_pos rfl, if_pos ⟨hl, h1, h2⟩]
  dsimp only
  rw [ho]
theorem recF_over (c : CfgD) (n : MaS) (p s a r : Int) (h : n.st = 0) : recF c n ⟨3, p, s, a, r, [], []⟩ = endS n 2 r := by
  unfold recF
  rw [if_neg (show ¬ (3 : Int) = 1 by decide), if_neg (show ¬ (3 : Int) = 2 by decide), if_pos rfl, if_pos h]
theorem recF_commit (c : CfgD) (n : MaS) (h : n.st = 0) (hw : n.why = 0) : recF c n ⟨2, 0, 0, 0, 0, [], []⟩ = endS n 1 0 := by
  unfold recF
  rw [if_neg (by decide), if_pos rfl, if_pos h]
  unfold endS
  rw [← hw]
theorem KpI.hear {c : CfgD} {m n : MaS} (h : KpI c m n) (frm : Int) (x : MsgD) : KpI c (hearF c m frm x).1 ((hearF c m frm x).2.2.foldl (recF c) n) := by
  unfold hearF
  split
  · exact h
  · split
    · exact h
    · rename_i hst
      have hs0 : m.st = 0 := Classical.byContradiction hst
      have hn0 : n.st = 0 := by rw [h.like.st]; exact hs0
      have hnw : n.why = 0 := by rw [h.like.why]; exact h.fine hs0
      unfold hearK
      split
      · cases hd : doneK c m x with
        | none => exact h
        | some k =>
          obtain ⟨h1, h2, h3, h4⟩ := doneK_is hd
          show KpI c (winK m k x.a x.set) (recF c n ⟨1, 0, x.s, x.a, 0, x.set, []⟩)
          rw [recF_won c n x.s x.a x.set k h3 h1 h2 (by rw [openN_like h.like]; exact h4)]
          exact h.win k x.a x.set h1 h2
      · split
        · split
          · show KpI c (endS m 2 x.r) (recF c n ⟨3, 0, x.s, 0, x.r, [], []⟩)
            rw [recF_over c n 0 x.s 0 x.r hn0]
            exact h.ends 2 x.r (by decide)
          · exact h
        · split
          · split
            · exact h.to (hello_like c m frm x)
            · exact h
          · split
            · split
              · show KpI c (wholeF c m x).1 ((wholeF c m x).2.foldl (recF c) n)
                unfold wholeF
                split
                · exact h
                · split
                  · show KpI c (endS m 2 x.r) (recF c n ⟨3, x.p, 0, 1, x.r, [], []⟩)
                    rw [recF_over c n x.p 0 1 x.r hn0]
                    exact h.ends 2 x.r (by decide)
                  · split
                    · exact h
                    · split
                      · exact h.to (rd_like m _)
                      · show KpI c (endS (rdSet m x.p.toNat) 1 0) (recF c n ⟨2, 0, 0, 0, 0, [], []⟩)
                        rw [recF_commit c n hn0 hnw]
                        exact (h.to (rd_like m _)).ends 1 0 (by decide)
              · exact h
            · exact h
theorem KpI.step {c : CfgD} {m n : MaS} (h : KpI c m n) (a : MActD) : KpI c (stepM c m a).1 ((stepM c m a).2.foldl (recF c) n) := by
  unfold stepM
  split
  · exact h.to ⟨rfl, fun _ => rfl, fun _ => rfl, rfl, rfl⟩
  · split
    · exact h.to (wake_like c m)
    · split
      · exact h.hear a.fr a.m
      · exact h
theorem newF_app (c : CfgD) (rs qs : List RecD) : newF c (rs ++ qs) = qs.foldl (recF c) (newF c rs) := List.foldl_append
/-- What a step keeps. -/
structure Kept1 (m m' : MaS) : Prop where
  len : m'.sp.length = m.sp.length
  won : ∀ k, (m.sp.getD k zeroS).won = true → (m'.sp.getD k zeroS).won = true ∧ (m'.sp.getD k zeroS).att = (m.sp.getD k zeroS).att
  st : m.st ≠ 0 → m'.st = m.st ∧ m'.why = m.why
theorem Kept1.of {m m' : MaS} (h : Like m m') : Kept1 m m' := ⟨h.len, fun k hk => ⟨by rw [h.won]; exact hk, h.att k⟩, fun _ => ⟨h.st, h.why⟩⟩
theorem kept_win (m : MaS) (k : Nat) (a : Int) (l : List Int) (hk : (m.sp.getD k zeroS).won = false) : Kept1 m (winK m k a l) where
  len := List.length_set ..
  won j hj := by
    show ((m.sp.set k _).getD j zeroS).won = true ∧ ((m.sp.set k _).getD j zeroS).att = _
    rw [getD_set]
    by_cases hh : j = k ∧ k < m.sp.length
    · rw [hh.1, hk] at hj
      cases hj
    · rw [if_neg hh]
      exact ⟨hj, rfl⟩
  st _ := ⟨rfl, rfl⟩
theorem kept_hear (c : CfgD) (m : MaS) (frm : Int) (x : MsgD) : Kept1 m (hearF c m frm x).1 := by
  have h0 := Kept1.of (Like.refl m)
  unfold hearF
  split
  · exact h0
  · split
    · exact h0
    · rename_i hst
      have hs0 : m.st = 0 := Classical.byContradiction hst
      have hE : ∀ m1 st why, Like m m1 → Kept1 m (endS m1 st why) := fun m1 st why hl => ⟨hl.len, (Kept1.of hl).won, fun h => absurd hs0 h⟩
      unfold hearK
      split
      · cases hd : doneK c m x with
        | none => exact h0
        | some k => exact kept_win m k _ _ (openN_some (doneK_is hd).2.2.2).2.1
      · split
        · split
          · exact hE m 2 x.r (Like.refl m)
          · exact h0
        · split
          · split
            · exact Kept1.of (hello_like c m frm x)
            · exact h0
          · split
            · split
              · show Kept1 m (wholeF c m x).1
                unfold wholeF
                split
                · exact h0
                · split
                  · exact hE m 2 x.r (Like.refl m)
                  · split
                    · exact h0
                    · split
                      · exact Kept1.of (rd_like m _)
                      · exact hE _ 1 0 (rd_like m _)
              · exact h0
            · exact h0
theorem kept_step (c : CfgD) (m : MaS) (a : MActD) : Kept1 m (stepM c m a).1 := by
  unfold stepM
  split
  · exact ⟨rfl, fun _ h => ⟨h, rfl⟩, fun _ => ⟨rfl, rfl⟩⟩
  · split
    · exact Kept1.of (wake_like c m)
    · split
      · exact kept_hear c m a.fr a.m
      · exact Kept1.of (Like.refl m)
theorem winV_nat (m : MaS) (k : Nat) (hk : k < m.sp.length) : winV m k = if (m.sp.getD k zeroS).won = true then ((m.sp.getD k zeroS).att, true) else (0, false) := by
  unfold winV
  rw [Int.toNat_natCast]
  by_cases h : (m.sp.getD k zeroS).won = true
  · rw [if_pos ⟨by omega, by omega, h⟩, if_pos h]
  · rw [if_neg (fun hh => h hh.2.2), if_neg h]
/-- A winner stays. -/
theorem winV_stays {m m' : MaS} (h : Kept1 m m') (k : Nat) (hk : k < m.sp.length) (hp : 0 < (winV m k).1) : winV m' k = ((winV m k).1, true) := by
  rw [winV_nat m k hk] at hp ⊢
  rw [winV_nat m' k (by rw [h.len]; exact hk)]
  by_cases hw : (m.sp.getD k zeroS).won = true
  · obtain ⟨h1, h2⟩ := h.won k hw
    rw [if_pos hw, if_pos h1, h2]
  · rw [if_neg hw] at hp
    exact absurd hp (by decide)
theorem winV_most {c : CfgD} {m n : MaS} (h : KpI c m n) (k : Nat) (hk : k < m.sp.length) (ht : 1 ≤ c.tries) : (winV m k).1 ≤ c.tries := by
  rw [winV_nat m k hk]
  by_cases hw : (m.sp.getD k zeroS).won = true
  · rw [if_pos hw]
    exact (h.may k hw).2
  · rw [if_neg hw]
    show (0 : Int) ≤ _
    omega
theorem winV_like {m n : MaS} (h : Like m n) (k : Int) : winV n k = winV m k := by
  unfold winV
  rw [h.len, h.won, h.att]
theorem winUp_like {m n : MaS} (h : Like m n) (k : Nat) : winUp n k = winUp m k := by
  induction k with
  | zero => rfl
  | succ k ih =>
    unfold winUp
    rw [h.won, ih]
theorem winners_like {m n : MaS} (h : Like m n) : winners n = winners m := by
  unfold winners
  rw [h.len]
  exact winUp_like h _
theorem winners_len (m : MaS) : (winners m).length ≤ m.sp.length := winUp_len m _

/-! ### bounds -/
theorem wakeUp_mem (c : CfgD) (m : MaS) (k : Nat) (hk : k ≤ m.sp.length) (s : SpS) (hs : s ∈ (wakeUp c m k).1.sp) : s ∈ m.sp ∨ ∃ s0 ∈ m.sp, s = wakeSp c m.now s0 := by
  induction k generalizing s with
  | zero => exact .inl hs
  | succ k ih =>
    unfold wakeUp at hs
    split at hs
    · exact ih (by omega) s hs
    · rcases List.mem_or_eq_of_mem_set hs with h | h
      · exact ih (by omega) s h
      · exact .inr ⟨_, getD_mem_or _ _ (by omega), h⟩
theorem MaB.le {m : MaS} {B B' : Int} (h : MaB m B) (hb : B ≤ B') : MaB m B' :=
  ⟨h.n0, h.n1, h.r0, Int.le_trans h.r1 hb, h.a0, fun s hs => Int.le_trans (h.a1 s hs) hb, h.t0, h.t1, h.l0, h.l1⟩
theorem MaB.wake {m : MaS} {B : Int} (c : CfgD) (h : MaB m B) (h1 : 1 ≤ c.tries) (h3 : c.tries ≤ 3) : MaB (wakeF c m).1 (B + 1) := by
  have hl := h.le (B' := B + 1) (by omega)
  unfold wakeF
  split
  · obtain ⟨e1, e2, e3, e4, e5, e6⟩ := wakeUp_same c m m.sp.length
    have hm := fun s hs => wakeUp_mem c m m.sp.length (Nat.le_refl _) s hs
    constructor
    · rw [e1]; exact hl.n0
    · rw [e1]; exact hl.n1
    · rw [e6]; exact hl.r0
    · rw [e6]; exact hl.r1
    all_goals
      intro s hs
      rcases hm s hs with hh | ⟨s0, hh, rfl⟩
    · exact hl.a0 s hh
    · show 0 ≤ s0.asked + 1; have := h.a0 s0 hh; omega
    · exact hl.a1 s hh
    · show s0.asked + 1 ≤ B + 1; have := h.a1 s0 hh; omega
    · exact hl.t0 s hh
    · show 0 ≤ min (s0.tr + 1) c.tries; have := h.t0 s0 hh; omega
    · exact hl.t1 s hh
    · show min (s0.tr + 1) c.tries ≤ 4; omega
    · exact hl.l0 s hh
    · show 0 ≤ m.now; exact h.n0
    · exact hl.l1 s hh
    · show m.now ≤ _; exact h.n1
  · exact hl
theorem MaB.win {m : MaS} {B : Int} (h : MaB m B) (k : Nat) (hk : k < m.sp.length) (a : Int) (l : List Int) : MaB (winK m k a l) B := by
  have hg := getD_mem_or m.sp k hk
  constructor
  · exact h.n0
  · exact h.n1
  · exact h.r0
  · exact h.r1
  all_goals
    intro s hs
    rcases List.mem_or_eq_of_mem_set hs with hh | rfl
  · exact h.a0 s hh
  · show 0 ≤ (m.sp.getD k zeroS).asked; exact h.a0 _ hg
  · exact h.a1 s hh
  · show (m.sp.getD k zeroS).asked ≤ B; exact h.a1 _ hg
  · exact h.t0 s hh
  · show 0 ≤ (m.sp.getD k zeroS).tr; exact h.t0 _ hg
  · exact h.t1 s hh
  · show (m.sp.getD k zeroS).tr ≤ 4; exact h.t1 _ hg
  · exact h.l0 s hh
  · show 0 ≤ (m.sp.getD k zeroS).at_; exact h.l0 _ hg
  · exact h.l1 s hh
  · show (m.sp.getD k zeroS).at_ ≤ 1099511627776; exact h.l1 _ hg
theorem MaB.hear {m : MaS} {B : Int} (c : CfgD) (frm : Int) (x : MsgD) (h : MaB m B) : MaB (hearF c m frm x).1 (B + 1) := by
  have hl := h.le (B' := B + 1) (by omega)
  have hE : ∀ st why, MaB (endS m st why) (B + 1) := fun st why => ⟨hl.n0, hl.n1, hl.r0, hl.r1, hl.a0, hl.a1, hl.t0, hl.t1, hl.l0, hl.l1⟩
  have hR : ∀ k, MaB (rdSet m k) (B + 1) := fun k => ⟨hl.n0, hl.n1, hl.r0, hl.r1, hl.a0, hl.a1, hl.t0, hl.t1, hl.l0, hl.l1⟩
  unfold hearF
  split
  · exact hl
  · split
    · exact hl
    · unfold hearK
      split
      · cases hd : doneK c m x with
        | none => exact hl
        | some k => exact hl.win k (openN_some (doneK_is hd).2.2.2).1 _ _
      · split
        · split
          · exact hE 2 x.r
          · exact hl
        · split
          · split
            · show MaB (helloF c m frm x).1 (B + 1)
              unfold helloF
              split
              · exact hl
              · exact ⟨hl.n0, hl.n1, by show 0 ≤ m.round + 1; have := h.r0; omega, by show m.round + 1 ≤ B + 1; have := h.r1; omega, hl.a0, hl.a1, hl.t0, hl.t1, hl.l0, hl.l1⟩
            · exact hl
          · split
            · split
              · show MaB (wholeF c m x).1 (B + 1)
                unfold wholeF
                split
                · exact hl
                · split
                  · exact hE 2 x.r
                  · split
                    · exact hl
                    · split
                      · exact hR _
                      · have hr := hR x.p.toNat
                        exact ⟨hr.n0, hr.n1, hr.r0, hr.r1, hr.a0, hr.a1, hr.t0, hr.t1, hr.l0, hr.l1⟩
              · exact hl
            · exact hl
theorem MaB.step {m : MaS} {B : Int} (c : CfgD) (a : MActD) (h : MaB m B) (h1 : 1 ≤ c.tries) (h3 : c.tries ≤ 3) : MaB (stepM c m a).1 (B + 1) := by
  have hl := h.le (B' := B + 1) (by omega)
  unfold stepM
  split
  · exact ⟨by show 0 ≤ min (m.now + 1) _; have := h.n0; omega, by show min (m.now + 1) _ ≤ _; omega, hl.r0, hl.r1, hl.a0, hl.a1, hl.t0, hl.t1, hl.l0, hl.l1⟩
  · split
    · exact h.wake c h1 h3
    · split
      · exact h.hear c a.fr a.m
      · exact hl
theorem MaB.m0 (c : CfgD) : MaB (m0 c) 0 := by
  constructor
  · show (0 : Int) ≤ 0; omega
  · show (0 : Int) ≤ 1099511627776; omega
  · show (0 : Int) ≤ 0; omega
  · show (0 : Int) ≤ 0; omega
  all_goals
    intro s hs
    rw [List.eq_of_mem_replicate hs]
    show (_ : Int) ≤ _
    decide
/-- A master's records are one or none, without pairs, of a set that may be. -/
theorem hear_recs (c : CfgD) (m : MaS) (frm : Int) (x : MsgD) : (hearF c m frm x).2.2.length ≤ 1 := by
  unfold hearF
  split
  · exact Nat.zero_le _
  · split
    · exact Nat.zero_le _
    · unfold hearK
      split
      · cases doneK c m x with
        | none => exact Nat.zero_le _
        | some k => exact Nat.le_refl _
      · split
        · split
          · exact Nat.le_refl _
          · exact Nat.zero_le _
        · split
          · split <;> exact Nat.zero_le _
          · split
            · split
              · show (wholeF c m x).2.length ≤ 1
                unfold wholeF
                split
                · exact Nat.zero_le _
                · split
                  · exact Nat.le_refl _
                  · split
                    · exact Nat.zero_le _
                    · split
                      · exact Nat.zero_le _
                      · exact Nat.le_refl _
              · exact Nat.zero_le _
            · exact Nat.zero_le _
theorem step_recs (c : CfgD) (m : MaS) (a : MActD) : (stepM c m a).2.length ≤ 1 := by
  unfold stepM
  split
  · exact Nat.zero_le _
  · split
    · exact Nat.zero_le _
    · split
      · exact hear_recs c m a.fr a.m
      · exact Nat.zero_le _
/-- The master behind some acts, and its records. -/
def runM (c : CfgD) (acts : List MActD) : Nat → MaS × List RecD
  | 0 => (m0 c, [])
  | k + 1 => ((stepM c (runM c acts k).1 (acts.getD k ⟨3, 0, ⟨0, 0, 0, 0, 0, 0, 0, 0, [], []⟩⟩)).1, (runM c acts k).2 ++ (stepM c (runM c acts k).1 (acts.getD k ⟨3, 0, ⟨0, 0, 0, 0, 0, 0, 0, 0, [], []⟩⟩)).2)
theorem runM_succ (c : CfgD) (acts : List MActD) (k : Nat) (h : k < acts.length) : runM c acts (k + 1) = ((stepM c (runM c acts k).1 acts[k]).1, (runM c acts k).2 ++ (stepM c (runM c acts k).1 acts[k]).2) := by
  show (_, _) = _
  rw [show acts.getD k ⟨3, 0, ⟨0, 0, 0, 0, 0, 0, 0, 0, [], []⟩⟩ = acts[k] from by rw [List.getD_eq_getElem?_getD, List.getElem?_eq_getElem h]; rfl]
theorem runM_kp (c : CfgD) (acts : List MActD) (k : Nat) : KpI c (runM c acts k).1 (newF c (runM c acts k).2) := by
  induction k with
  | zero => exact KpI.m0 c
  | succ k ih =>
    show KpI c (stepM c _ _).1 (newF c (_ ++ _))
    rw [newF_app]
    exact ih.step _
theorem runM_b (c : CfgD) (acts : List MActD) (h1 : 1 ≤ c.tries) (h3 : c.tries ≤ 3) (k : Nat) : MaB (runM c acts k).1 (k : Int) := by
  induction k with
  | zero => exact MaB.m0 c
  | succ k ih =>
    have := ih.step c (acts.getD k ⟨3, 0, ⟨0, 0, 0, 0, 0, 0, 0, 0, [], []⟩⟩) h1 h3
    rw [show ((k + 1 : Nat) : Int) = (k : Int) + 1 from by omega]
    exact this
theorem runM_recs (c : CfgD) (acts : List MActD) (k : Nat) : (runM c acts k).2.length ≤ k := by
  induction k with
  | zero => exact Nat.le_refl _
  | succ k ih =>
    show (_ ++ _ : List RecD).length ≤ _
    rw [List.length_append]
    have := step_recs c (runM c acts k).1 (acts.getD k ⟨3, 0, ⟨0, 0, 0, 0, 0, 0, 0, 0, [], []⟩⟩)
    omega
theorem runM_len (c : CfgD) (acts : List MActD) (k : Nat) : (runM c acts k).1.sp.length = c.job.splits.length := by
  induction k with
  | zero => exact List.length_replicate ..
  | succ k ih => rw [← ih]; exact (kept_step c _ _).len
end Go.Proofs.Ytbnhhlahbhjogaa.K
namespace Go.Proofs.Ytbnhhlahbhjogaa.K
open Go.RowKit Go.Proofs.YtbnhhlahbhjogaaW.PrintWords Go.Proofs.YtbnhhlahbhjogaaW.PrintLast Go.Proofs.YtbnhhlahbhjogaaW.PrintMore Go.Proofs.Ytbnhhlahbhjogaa.U Go.Proofs.Ytbnhhlahbhjogaa.T

theorem kMAct_open {w : World} {x : MActD} {cs : List Value} (h : kMAct.K w x cs) : ∃ A1 A2 c1 c2, cs = rawL ⟨x.op, x.fr, x.m⟩ (.slice A1 x.m.set.length c1) (.slice A2 x.m.prs.length c2) ∧ MsgC w x.m A1 A2 c1 c2 := kLet_open (x := ⟨x.op, x.fr, x.m⟩) h
/-- An act in a row: where its cells stand. -/
theorem at_mact {w : World} {A : Option Addr} {n : Nat} {xs : List MActD} (h : Kd.C kMAct w A n xs) (k : Nat) (hk : k < xs.length) : ∃ ad A1 A2 c1 c2, A = some ad ∧ MsgC w (xs[k]).m A1 A2 c1 c2 ∧
    ∀ i u, (rawL ⟨(xs[k]).op, (xs[k]).fr, (xs[k]).m⟩ (.slice A1 (xs[k]).m.set.length c1) (.slice A2 (xs[k]).m.prs.length c2))[i]? = some u → w.cell? (ad.add (k * 12 + i)) = some u := by
  obtain ⟨h1, h2, h3⟩ := h
  obtain ⟨ad, e, hc⟩ := h3 (by omega)
  obtain ⟨cs, hl, hK, hcell⟩ := hc k xs[k] (List.getElem?_eq_getElem hk)
  obtain ⟨A1, A2, c1, c2, rfl, hm1⟩ := kMAct_open hK
  exact ⟨ad, A1, A2, c1, c2, e, hm1, hcell⟩
theorem cell_off {w : World} {ad : Addr} {n : Nat} {cs : List Value} (h : ∀ i u, cs[i]? = some u → w.cell? (ad.add (n + i)) = some u) (i : Nat) (u : Value) (hu : cs[i + 1]? = some u) : w.cell? ⟨(ad.add n).block, (ad.add n).off + (i + 1), none⟩ = some u := by
  have := h (i + 1) u hu
  rw [show n + (i + 1) = n + i + 1 from by omega] at this
  by_cases h0 : i = 0
  · subst h0
    rw [← add_add'] at this
    exact this
  · rw [← this]
    congr 1
    simp [Addr.add]
    split
    · simp_all
    · simp; omega
set_option maxHeartbeats 6400000 in
theorem great22 (j : JobD) (wk tr tmo : Int) (A1 A2 A3 A4 A5 : Option Addr) (c1 c2 c3 c4 c5 : Nat) (AR : Option Addr) (cR : Nat) (rs : List RecD) (A0 : Option Addr) (c0 : Nat) (xs : List MActD) (most : Int) (w : World) (hj : JobC w j A1 A2 A3 A4 A5 c1 c2 c3 c4 c5) (hgs : ∀ l ∈ j.splits, ∀ x ∈ l, GPair x)
    (hR : Kd.C kRec w AR rs.length rs) (hgr : ∀ s ∈ rs, GRec s) (hr0 : Kd.C kMAct w A0 xs.length xs) (hg0 : ∀ x ∈ xs, GMAct x) :
    Calls Try.prog 24 #[.agg #[.slice A1 j.splits.length c1, .int .i64 j.parts, .slice A2 j.map.length c2, .slice A3 j.combine.length c3, .slice A4 j.reduce.length c4, .int .i64 j.chunk, .int .i64 j.window, .int .i64 j.fuel, .slice A5 j.marks.length c5, .int .i64 wk, .int .i64 tr, .int .i64 tmo], .slice AR rs.length cR, .slice A0 xs.length c0, .int .i64 most] w fun e w' => RetBool (fun r => r = false → (rs.length : Int) ≤ 20 ∧ (∀ s ∈ rs, SmallR s) ∧ (xs.length : Int) ≤ most ∧ ∀ x ∈ xs, SmallM x.m) e ∧ Below w.heap.size w w' := by
  obtain ⟨N, hN⟩ : ∃ N, N = j.splits.length := ⟨_, rfl⟩
  obtain ⟨g, hg⟩ : ∃ g, g = w.heap.size := ⟨_, rfl⟩
  have hmx := Kd.C_max hr0
  have hmr := Kd.C_max hR
  obtain ⟨w0, hw0⟩ : ∃ w0, w0 = w.alloc (.cells #[.slice A1 N c1, .int .i64 j.parts, .slice A2 j.map.length c2, .slice A3 j.combine.length c3, .slice A4 j.reduce.length c4, .int .i64 j.chunk, .int .i64 j.window, .int .i64 j.fuel, .slice A5 j.marks.length c5, .int .i64 wk, .int .i64 tr, .int .i64 tmo] 28) := ⟨_, rfl⟩
  have hb0 : Below w.heap.size w w0 := by rw [hw0]; exact (Below.refl _ _).alloc (Nat.le_refl _) _
  have hg0w : w0.heap[g]? = some (.cells ([.slice A1 N c1, .int .i64 j.parts, .slice A2 j.map.length c2, .slice A3 j.combine.length c3, .slice A4 j.reduce.length c4, .int .i64 j.chunk, .int .i64 j.window, .int .i64 j.fuel, .slice A5 j.marks.length c5, .int .i64 wk, .int .i64 tr, .int .i64 tmo] : List Value).toArray 28 (0, 0)) := by rw [hw0, hg]; exact alloc_at w _
  have HJ := Aside0.mk hj
  have HGS := Aside0.mk hgs
  have HR := Aside0.mk hR
  have HGR := Aside0.mk hgr
  have HR0 := Aside0.mk hr0
  have HG0 := Aside0.mk hg0
  have HN := Aside0.mk hN
  have HG := Aside0.mk hg
  have HW0 := Aside0.mk hw0
  have HB0 := Aside0.mk hb0
  have HGW := Aside0.mk hg0w
  have huc := Try.underlying28
  have huj := Try.underlying26
  have hum := Try.underlying45
  have hua := Try.underlying70
  rw [← hN]
  clear hj hgs hR hgr hr0 hg0 hN hg hw0 hb0 hg0w
  go_enter Try.func24, Try.ntmps24
  go_upto_region 1 with (fail)
  rw [show w.alloc (.cells #[.slice A1 N c1, .int .i64 j.parts, .slice A2 j.map.length c2, .slice A3 j.combine.length c3, .slice A4 j.reduce.length c4, .int .i64 j.chunk, .int .i64 j.window, .int .i64 j.fuel, .slice A5 j.marks.length c5, .int .i64 wk, .int .i64 tr, .int .i64 tmo] 28) = w0 from HW0.out.symm, ← HG.out]
  go_wp2_with fail
  go_loopg [9] xs.length (fun kq v9 w' => ∃ k : Nat, k + kq = xs.length ∧ v9 = .int .i64 k ∧ Aside0 (∀ x ∈ xs.take k, SmallM x.m) ∧ Aside0 (Below w.heap.size w w') ∧ Aside0 (w'.heap[g]? = some (.cells ([.slice A1 N c1, .int .i64 j.parts, .slice A2 j.map.length c2, .slice A3 j.combine.length c3, .slice A4 j.reduce.length c4, .int .i64 j.chunk, .int .i64 j.window, .int .i64 j.fuel, .slice A5 j.marks.length c5, .int .i64 wk, .int .i64 tr, .int .i64 tmo] : List Value).toArray 28 (0, 0))))
  case atStart => exact ⟨0, by omega, rfl, ⟨by simp⟩, HB0, HGW⟩
  case round =>
    obtain ⟨k, hk, rfl, HA, HB, HGB⟩ := hrel
    have HGJ2 := Aside0.mk (greatJob j A1 A2 A3 A4 A5 c1 c2 c3 c4 c5 wr (JobC.below HJ.out HB.out) HGS.out)
    rw [← HN.out] at HGJ2
    have HGR2 := Aside0.mk (fun w' (hb : Below w.heap.size w w') => greatRecords AR cR rs 20 w' (Kd.C_below HR.out hb) HGR.out)
    have x0 : wr.cell? ⟨g, 0, none⟩ = some (.slice A1 N c1) := cell_of_blk HGB.out
    have x1 : wr.cell? ⟨g, 1, none⟩ = some (.int .i64 j.parts) := cell_of_blk HGB.out
    have x2 : wr.cell? ⟨g, 2, none⟩ = some (.slice A2 j.map.length c2) := cell_of_blk HGB.out
    have x3 : wr.cell? ⟨g, 3, none⟩ = some (.slice A3 j.combine.length c3) := cell_of_blk HGB.out
    have x4 : wr.cell? ⟨g, 4, none⟩ = some (.slice A4 j.reduce.length c4) := cell_of_blk HGB.out
    have x5 : wr.cell? ⟨g, 5, none⟩ = some (.int .i64 j.chunk) := cell_of_blk HGB.out
    have x6 : wr.cell? ⟨g, 6, none⟩ = some (.int .i64 j.window) := cell_of_blk HGB.out
    have x7 : wr.cell? ⟨g, 7, none⟩ = some (.int .i64 j.fuel) := cell_of_blk HGB.out
    have x8 : wr.cell? ⟨g, 8, none⟩ = some (.slice A5 j.marks.length c5) := cell_of_blk HGB.out
    by_cases hmost : (xs.length : Int) ≤ most
    case' neg =>
      have hgt : most < (xs.length : Int) := by omega
      have hbg : decide (most < (xs.length : Int)) = true := decide_eq_true hgt
      by_cases hlt : k < xs.length
      all_goals
        first
          | have hltI : (k : Int) < xs.length := by omega
          | have hltI : ¬ (k : Int) < xs.length := by omega
        go_wp2_with fail
        refine HGJ2.out.mono ?_
        rintro e w1 ⟨⟨r1, rfl, -⟩, hb1⟩
        have HB1 := Aside0.mk (below_then HB.out HB.out.size hb1)
        clear hb1 HGJ2
        cases r1
        case' true =>
          go_wp2_with fail
          go_ret
          exact ⟨RetBool.mk true (by simp), HB1.out⟩
        go_wp2_with fail
        refine (HGR2.out w1 HB1.out).mono ?_
        rintro e w2 ⟨⟨r2, rfl, -⟩, hb2⟩
        have HB2 := Aside0.mk (below_then HB1.out HB1.out.size hb2)
        clear hb2 HGR2
        cases r2
        all_goals
          go_wp2_with fail
          go_ret
          exact ⟨RetBool.mk true (by simp), HB2.out⟩
    by_cases hlt : k < xs.length
    case' neg =>
      have hltI : ¬ (k : Int) < xs.length := by omega
      have hngt : ¬ most < (xs.length : Int) := by omega
      have hbg : decide (most < (xs.length : Int)) = false := decide_eq_false hngt
      have HALL : Aside0 (∀ x ∈ xs, SmallM x.m) := ⟨by
        have h := HA.out
        rw [List.take_of_length_le (by omega)] at h
        exact h⟩
      go_wp2_with fail
      refine HGJ2.out.mono ?_
      rintro e w1 ⟨⟨r1, rfl, -⟩, hb1⟩
      have HB1 := Aside0.mk (below_then HB.out HB.out.size hb1)
      clear hb1 HGJ2
      cases r1
      case' true =>
        go_wp2_with fail
        go_ret
        exact ⟨RetBool.mk true (by simp), HB1.out⟩
      go_wp2_with fail
      refine (HGR2.out w1 HB1.out).mono ?_
      rintro e w2 ⟨⟨r2, rfl, hr2⟩, hb2⟩
      have HB2 := Aside0.mk (below_then HB1.out HB1.out.size hb2)
      have HR2 := Aside0.mk hr2
      clear hb2 HGR2 hr2
      cases r2
      case' true =>
        go_wp2_with fail
        go_ret
        exact ⟨RetBool.mk true (by simp), HB2.out⟩
      go_wp2_with fail
      go_ret
      exact ⟨RetBool.mk _ (fun _ => ⟨(HR2.out trivial).1, (HR2.out trivial).2, hmost, HALL.out⟩), HB2.out⟩
    have hltI : (k : Int) < xs.length := by omega
    have hk0 : (0 : Int) ≤ (k : Int) := by omega
    obtain ⟨ad, B1, B2, d1, d2, rfl, hm1, hc⟩ := at_mact (Kd.C_below HR0.out HB.out) k hlt
    obtain ⟨x, hx⟩ : ∃ x, x = xs[k]'hlt := ⟨_, rfl⟩
    rw [← hx] at hm1 hc
    have hgx : GMAct x := by rw [hx]; exact HG0.out _ (List.getElem_mem hlt)
    have ht : xs.take (k + 1) = xs.take k ++ [x] := by rw [List.take_succ_eq_append_getElem hlt, hx]
    have HT := Aside0.mk ht
    have hcells := cell_off hc
    obtain ⟨P, hP⟩ : ∃ P, ad.add (k * 12) = P := ⟨_, rfl⟩
    rw [hP] at hcells
    obtain ⟨g0, o0, z0⟩ := P
    have HG1 := Aside0.mk (greatMessage x.m B1 B2 d1 d2 wr hm1 hgx.2.2.2.2.2.2.2.2.2.2.2)
    have f2 : wr.cell? ⟨g0, o0 + 2, none⟩ = some (.int .i64 x.m.k) := hcells 1 _ rfl
    have f3 : wr.cell? ⟨g0, o0 + 3, none⟩ = some (.int .i64 x.m.s) := hcells 2 _ rfl
    have f4 : wr.cell? ⟨g0, o0 + 4, none⟩ = some (.int .i64 x.m.a) := hcells 3 _ rfl
    have f5 : wr.cell? ⟨g0, o0 + 5, none⟩ = some (.int .i64 x.m.p) := hcells 4 _ rfl
    have f6 : wr.cell? ⟨g0, o0 + 6, none⟩ = some (.int .i64 x.m.q) := hcells 5 _ rfl
    have f7 : wr.cell? ⟨g0, o0 + 7, none⟩ = some (.int .i64 x.m.n) := hcells 6 _ rfl
    have f8 : wr.cell? ⟨g0, o0 + 8, none⟩ = some (.int .i64 x.m.e) := hcells 7 _ rfl
    have f9 : wr.cell? ⟨g0, o0 + 9, none⟩ = some (.int .i64 x.m.r) := hcells 8 _ rfl
    have f10 : wr.cell? ⟨g0, o0 + 10, none⟩ = some (.slice B1 x.m.set.length d1) := hcells 9 _ rfl
    have f11 : wr.cell? ⟨g0, o0 + 11, none⟩ = some (.slice B2 x.m.prs.length d2) := hcells 10 _ rfl
    unfold msgV at HG1
    clear hm1 hc hx hgx ht hcells HGJ2 HGR2
    clear x0 x1 x2 x3 x4 x5 x6 x7 x8
    go_wp2_with fail
    refine HG1.out.mono ?_
    rintro e w1 ⟨⟨r1, rfl, hr1⟩, hb1⟩
    have HR1 := Aside0.mk hr1
    have HB1 := Aside0.mk (below_then HB.out HB.out.size hb1)
    have HG1' := Aside0.mk ((hb1.block g (blk_lt' HGB.out)).trans HGB.out)
    clear hr1 hb1 HG1 f2 f3 f4 f5 f6 f7 f8 f9 f10 f11
    cases r1
    case' true =>
      go_wp2_with fail
      go_ret
      exact ⟨RetBool.mk true (by simp), HB1.out⟩
    go_wp2_with fail
    go_roundg (xs.length - (k + 1))
    case measure => omega
    case rel => exact ⟨k + 1, by omega, by go_num, ⟨fun y hy => by
      rw [HT.out] at hy
      rcases List.mem_append.1 hy with h | h
      · exact HA.out y h
      · rw [List.mem_singleton.1 h]
        exact HR1.out trivial⟩, HB1, HG1'⟩

/-- Records in a row of one's own, whose rows stand in blocks that nobody writes. -/
structure AllP (w : World) (base : Nat) (v : Value) (zs : List RecZ) (Z : Nat → Prop) : Prop where
  row : Own kRR 90 w base v zs
  sets : ∀ z ∈ zs, Kd.R kI 3 w base Z z.sv z.x.set
  prs : ∀ z ∈ zs, Kd.R kPair 113 w base Z z.pv z.x.prs
  out : ∀ k, v.ownBlock = some k → ¬ Z k
  lo : ∀ k, Z k → base ≤ k
  lt : ∀ k, Z k → k < w.heap.size
section
variable {w w' : World} {base : Nat} {v : Value} {zs : List RecZ} {Z S : Nat → Prop}
theorem AllP.nil (w : World) (base : Nat) : AllP w base (.slice none 0 0) [] (fun _ => False) :=
  ⟨Own.nil _ _ _ _, fun z hz => (by cases hz), fun z hz => (by cases hz), fun _ _ h => h, fun _ h => h.elim, fun _ h => h.elim⟩
theorem AllP.ch (h : AllP w base v zs Z) (hc : Ch w w' S) (h1 : ∀ k, Z k → ¬ S k) (h2 : ∀ k, v.ownBlock = some k → ¬ S k) : AllP w' base v zs Z where
  row := h.row.ch flat_RR hc h2
  sets z hz := Kd.R_step (h.sets z hz) (fun k hk hlt => hc.block k hlt (h1 k hk))
  prs z hz := Kd.R_step (h.prs z hz) (fun k hk hlt => hc.block k hlt (h1 k hk))
  out := h.out
  lo := h.lo
  lt k hk := Nat.lt_of_lt_of_le (h.lt k hk) hc.size
theorem AllP.below (h : AllP w base v zs Z) (hb : Below w.heap.size w w') : AllP w' base v zs Z := h.ch (Ch.of_below hb (fun _ => False)) (fun _ _ h => h) (fun _ _ h => h)
theorem AllP.reads (h : AllP w base v zs Z) : ∃ A c, v = .slice A zs.length c ∧ Kd.C kRec w A zs.length (zs.map (·.x)) := by
  obtain ⟨A, c, e, _, hC⟩ := h.row.reads
  refine ⟨A, c, e, ?_⟩
  obtain ⟨h1, h2, h3⟩ := hC
  refine ⟨by rw [List.length_map], h2, fun hn => ?_⟩
  obtain ⟨ad, ea, hc⟩ := h3 hn
  refine ⟨ad, ea, fun j x hj => ?_⟩
  rw [List.getElem?_map] at hj
  obtain ⟨z, hz, rfl⟩ := Option.map_eq_some_iff.1 hj
  obtain ⟨cs, hl, hK, hcell⟩ := hc j z hz
  have hm := List.mem_of_getElem? hz
  obtain ⟨A1, c1, e1, hle1, hC1⟩ := Kd.R_reads (h.sets z hm)
  obtain ⟨A2, c2, e2, hle2, hC2⟩ := Kd.R_reads (h.prs z hm)
  obtain ⟨rfl, _, _⟩ := hK
  refine ⟨rawRZ z, rfl, ?_, hcell⟩
  unfold rawRZ
  rw [e1, e2]
  exact kRec_mk ⟨hC1, hC2, hle1, hle2⟩
/-- Behind an append of an answer's records. -/
theorem AllP.join {w1 : World} {B : Nat} {r v1 : Value} {ys : List RecZ} {ow : Nat → Option Nat} (h : AllP w base v zs Z) (hr : RListP w B r ys ow) (hB : base ≤ B) (hZ : ∀ k, Z k → k < B) (hv : ∀ k, v.ownBlock = some k → k < B ∨ ow k = none)
    (ho : Own kRR 90 w1 base v1 (zs ++ ys)) (hg : w.grownBy w1 v.ownBlock) (hat : ∀ k, v1.ownBlock = some k → v.ownBlock = some k ∨ w.heap.size ≤ k) :
    AllP w1 base v1 (zs ++ ys) (fun k => Z k ∨ (ow k ≠ none ∧ B ≤ k)) := by
  have hst : ∀ k, (Z k ∨ (ow k ≠ none ∧ B ≤ k)) → some k ≠ v.ownBlock := fun k hk e => by
    rcases hk with hk | ⟨hk, hb⟩
    · exact h.out k e.symm hk
    · rcases hv k e.symm with h1 | h1
      · omega
      · exact hk h1
  have hsz : w.heap.size ≤ w1.heap.size := (Ch.of_grown (S := fun _ => True) hg (fun _ _ => trivial)).size
  refine ⟨ho, fun z hz => ?_, fun z hz => ?_, fun k hk hZk => ?_, fun k hk => ?_, fun k hk => ?_⟩
  · rcases List.mem_append.1 hz with hz | hz
    · exact Kd.R_grown (Kd.R_mono (h.sets z hz) (fun k hk => .inl hk)) hg hst
    · obtain ⟨j, hj, rfl⟩ := List.getElem_of_mem hz
      exact Kd.R_grown (Kd.R_lower (Kd.R_mono (Kd.R_bound (hr.sets j hj)) (fun k hk => .inr ⟨by rw [hk.1]; simp, hk.2.1⟩)) hB) hg hst
  · rcases List.mem_append.1 hz with hz | hz
    · exact Kd.R_grown (Kd.R_mono (h.prs z hz) (fun k hk => .inl hk)) hg hst
    · obtain ⟨j, hj, rfl⟩ := List.getElem_of_mem hz
      exact Kd.R_grown (Kd.R_lower (Kd.R_mono (Kd.R_bound (hr.prs j hj)) (fun k hk => .inr ⟨by rw [hk.1]; simp, hk.2.1⟩)) hB) hg hst
  · rcases hat k hk with h1 | h1
    · exact hst k hZk h1.symm
    · rcases hZk with h2 | ⟨h2, _⟩
      · have := h.lt k h2; omega
      · have := hr.lt k h2; omega
  · rcases hk with h1 | ⟨_, h1⟩
    · exact h.lo k h1
    · omega
  · rcases hk with h1 | ⟨h1, _⟩
    · exact Nat.lt_of_lt_of_le (h.lt k h1) hsz
    · exact Nat.lt_of_lt_of_le (hr.lt k h1) hsz
end
end Go.Proofs.Ytbnhhlahbhjogaa.K
namespace Go.Proofs.Ytbnhhlahbhjogaa.K
open Go.RowKit Go.Proofs.YtbnhhlahbhjogaaW.PrintWords Go.Proofs.YtbnhhlahbhjogaaW.PrintLast Go.Proofs.YtbnhhlahbhjogaaW.PrintMore Go.Proofs.Ytbnhhlahbhjogaa.U Go.Proofs.Ytbnhhlahbhjogaa.T

set_option maxHeartbeats 3200000 in
theorem overLetters2 (v : Value) (zs : List LetZ) (ow : Nat → Option Nat) (base : Nat) (w : World) (hL : ListP w base v zs ow) (hb : base ≤ w.heap.size) (hl : zs.length ≤ 100000) (hsm : ∀ z ∈ zs, z.x.m.set.length ≤ 1000000 ∧ z.x.m.prs.length ≤ 1000000) :
    Calls Try.prog 59 #[v] w fun e w' => e = .returned (.tuple #[]) ∧ Ch w w' (fun i => base ≤ i ∧ (v.ownBlock = some i ∨ ow i ≠ none)) := by
  have hu := Try.underlying51
  have hum := Try.underlying45
  obtain ⟨A, c, rfl, hc, hrd⟩ := hL.row.reads
  have HO := Aside0.mk hL
  clear hrd
  rcases Nat.eq_zero_or_pos zs.length with h0 | h0
  · obtain rfl := List.eq_nil_of_length_eq_zero h0
    clear hL hl h0
    go_enter Try.func59, Try.ntmps59
    go_wp2_with fail
    go_loopg [2] 1 (fun kq v2 w' => v2 = .int .i64 0 ∧ w' = w)
    case atStart => exact ⟨rfl, rfl⟩
    case round =>
      obtain ⟨rfl, rfl⟩ := hrel
      go_wp2_with fail
      go_end0
      exact ⟨rfl, Ch.refl _ _⟩
  · obtain ⟨g, cap, he, hbg, hlt, _⟩ := Kd.R_form hL.row h0
    simp only [Value.slice.injEq] at he
    obtain ⟨rfl, _, rfl⟩ := he
    have HSM := Aside0.mk hsm
    have HBG := Aside0.mk (And.intro hb hbg)
    clear hL hsm hb hbg hlt
    go_enter Try.func59, Try.ntmps59
    go_wp2_with fail
    go_loopg [2] zs.length (fun kq v2 w' => ∃ (k : Nat) (ys : List LetZ), k + kq = zs.length ∧ v2 = .int .i64 k ∧ Aside0 (ys.length = zs.length) ∧ Aside0 (Own kLR 51 w' base (.slice (some ⟨g, 0, none⟩) zs.length c) ys) ∧ Aside0 (∀ j, k ≤ j → ys[j]? = zs[j]?) ∧
      Aside0 (∀ j (h : j < zs.length), k ≤ j → Kd.R kI 3 w' base (fun i => ow i = some j) (zs[j]).sv (zs[j]).x.m.set ∧ Kd.R kPair 113 w' base (fun i => ow i = some j) (zs[j]).pv (zs[j]).x.m.prs) ∧ Aside0 (Ch w w' (fun i => base ≤ i ∧ ((Value.slice (some ⟨g, 0, none⟩) zs.length c).ownBlock = some i ∨ ow i ≠ none))))
    case atStart => exact ⟨0, zs, by omega, rfl, ⟨rfl⟩, ⟨HO.out.row⟩, ⟨fun _ _ => rfl⟩, ⟨fun j h _ => ⟨HO.out.sets j h, HO.out.prs j h⟩⟩, ⟨Ch.refl _ _⟩⟩
    case round =>
      obtain ⟨k, ys, hk, rfl, HYS, HO1, HT, HR, HG⟩ := hrel
      by_cases hlt : k < zs.length
      · obtain ⟨z, hz⟩ : ∃ z, z = zs[k] := ⟨_, rfl⟩
        obtain ⟨hs, hp⟩ := HR.out k hlt (Nat.le_refl _)
        obtain ⟨hsl, hpl⟩ := HSM.out _ (List.getElem_mem hlt)
        rw [← hz] at hs hp hsl hpl
        have hyk : ys[k]? = some z := by rw [HT.out k (Nat.le_refl _), hz]; exact List.getElem?_eq_getElem hlt
        obtain ⟨⟨fr, dst, m⟩, sv, pv⟩ := z
        replace hs : Kd.R kI 3 wr base (fun i => ow i = some k) sv m.set := hs
        replace hp : Kd.R kPair 113 wr base (fun i => ow i = some k) pv m.prs := hp
        replace hsl : m.set.length ≤ 1000000 := hsl
        replace hpl : m.prs.length ≤ 1000000 := hpl
        obtain ⟨A1, c1, rfl, _, _⟩ := Kd.R_reads hs
        obtain ⟨A2, c2, rfl, _, _⟩ := Kd.R_reads hp
        obtain ⟨ls1, hls1⟩ : ∃ n, n = m.set.length := ⟨_, rfl⟩
        obtain ⟨lp1, hlp1⟩ : ∃ n, n = m.prs.length := ⟨_, rfl⟩
        have hsz : base ≤ wr.heap.size := Nat.le_trans HBG.out.1 HG.out.size
        have HOV := Aside0.mk (overMessage m _ _ base wr (Kd.R_mono hs (fun _ _ => trivial)) (Kd.R_mono hp (fun _ _ => trivial)) hsz hsl hpl)
        have hown : ∀ i, ((Value.slice A1 m.set.length c1).ownBlock = some i ∨ (Value.slice A2 m.prs.length c2).ownBlock = some i) → ow i = some k := fun i hi => by
          rcases hi with hi | hi
          · exact hs.1 i hi
          · exact hp.1 i hi
        have hel : ∀ (w1 : World) (us : List LetZ), us.length = zs.length → us[k]? = some ⟨⟨fr, dst, m⟩, .slice A1 m.set.length c1, .slice A2 m.prs.length c2⟩ → Own kLR 51 w1 base (.slice (some ⟨g, 0, none⟩) zs.length c) us → LetAt w1 ⟨g, k * 12, none⟩ fr dst m (.slice A1 m.set.length c1) (.slice A2 m.prs.length c2) ∧ (∀ i, w1.frozen? ⟨g, k * 12 + i, none⟩ = false) ∧ Own kLR 51 (w1.setCells g (k * 12) (rawZ overZ)) base (.slice (some ⟨g, 0, none⟩) zs.length c) (us.set k overZ) ∧ w1.grownBy (w1.setCells g (k * 12) (rawZ overZ)) (some g) := fun w1 us hus huk hO => by
          obtain ⟨ce, hcl, hM, hcc, hfr⟩ := Kd.R_elem hO zeroZ (k : Int) (by omega) (by omega)
          have e : us.getD (k : Int).toNat zeroZ = ⟨⟨fr, dst, m⟩, .slice A1 m.set.length c1, .slice A2 m.prs.length c2⟩ := by rw [Int.toNat_natCast, List.getD_eq_getElem?_getD, huk]; rfl
          rw [e] at hM
          obtain ⟨hce, h1, h2⟩ := hM
          obtain ⟨hput, hgp⟩ := Kd.R_seg hO (k : Int) (by omega) (by omega) (seg := rawZ overZ) (j := 0) hcl hcc (by decide) (x' := overZ) (okp := fun _ => False) (by rw [hce]; exact ⟨rfl, rfl, rfl⟩) (fun _ h => h.elim)
          rw [hce] at hcc
          rw [Int.toNat_natCast] at hcc hfr hput hgp
          exact ⟨⟨hcc 0 _ rfl, hcc 1 _ rfl, hcc 2 _ rfl, hcc 3 _ rfl, hcc 4 _ rfl, hcc 5 _ rfl, hcc 6 _ rfl, hcc 7 _ rfl, hcc 8 _ rfl, hcc 9 _ rfl, hcc 10 _ rfl, hcc 11 _ rfl⟩, hfr, hput, hgp⟩
        have HEL := Aside0.mk hel
        obtain ⟨hat, _⟩ := hel wr ys HYS.out hyk HO1.out
        have HNX : Aside0 (∀ w1, Ch wr w1 (fun i => (Value.slice A1 m.set.length c1).ownBlock = some i ∨ (Value.slice A2 m.prs.length c2).ownBlock = some i) → Own kLR 51 w1 base (.slice (some ⟨g, 0, none⟩) zs.length c) ys ∧ (∀ w2, w1.grownBy w2 (some g) → Aside0 (∀ j (h : j < zs.length), k + 1 ≤ j → Kd.R kI 3 w2 base (fun i => ow i = some j) (zs[j]).sv (zs[j]).x.m.set ∧ Kd.R kPair 113 w2 base (fun i => ow i = some j) (zs[j]).pv (zs[j]).x.m.prs) ∧ Aside0 (Ch w w2 (fun i => base ≤ i ∧ ((Value.slice (some ⟨g, 0, none⟩) zs.length c).ownBlock = some i ∨ ow i ≠ none))))) := ⟨fun w1 hc1 => by
          have hc1' := hc1.mono (fun i hi => hown i hi)
          have hog : ow g = none := HO.out.out g rfl
          refine ⟨HO1.out.ch flat_LR hc1' (fun i hi e => by injection hi with hi; rw [← hi, hog] at e; cases e), fun w2 hg2 => ⟨⟨fun j hj hkj => ?_⟩, ⟨?_⟩⟩⟩
          · obtain ⟨q1, q2⟩ := HR.out j hj (by omega)
            have hst : ∀ i, ow i = some j → i < wr.heap.size → w2.heap[i]? = wr.heap[i]? := fun i hi hlt' => (hg2.block i (Nat.lt_of_lt_of_le hlt' hc1.size) (fun e => by injection e with e; rw [e, hog] at hi; cases hi)).trans (hc1'.block i hlt' (fun e => by rw [e] at hi; injection hi with hi; omega))
            exact ⟨Kd.R_step q1 hst, Kd.R_step q2 hst⟩
          · refine (HG.out.trans (hc1.mono (T := (fun i => base ≤ i ∧ ((Value.slice (some ⟨g, 0, none⟩) zs.length c).ownBlock = some i ∨ ow i ≠ none))) (fun i hi => ?_)) (fun i _ h => h)).trans (Ch.of_grown (S := (fun i => base ≤ i ∧ ((Value.slice (some ⟨g, 0, none⟩) zs.length c).ownBlock = some i ∨ ow i ≠ none))) hg2 (fun i hi => by injection hi with hi; exact ⟨by rw [← hi]; exact HBG.out.2, .inl (by rw [hi]; rfl)⟩)) (fun i _ h => h)
            rcases hi with hi | hi
            · exact ⟨(Kd.R_bound (Kd.R_mono hs (fun _ _ => trivial) : Own kI 3 wr base _ m.set)).1 i hi |>.2.1, .inr (by rw [hown i (.inl hi)]; simp)⟩
            · exact ⟨(Kd.R_bound (Kd.R_mono hp (fun _ _ => trivial) : Own kPair 113 wr base _ m.prs)).1 i hi |>.2.1, .inr (by rw [hown i (.inr hi)]; simp)⟩⟩
        have HYK := Aside0.mk hyk
        have HAT := Aside0.mk hat
        have hin : (k : Int) < zs.length := by omega
        have hi0 : (0 : Int) ≤ (k : Int) := by omega
        have hP : (⟨g, 0, none⟩ : Addr).add (k * 12) = ⟨g, k * 12, none⟩ := by rw [add_plain]
        obtain ⟨f0, f1, f2, f3, f4, f5, f6, f7, f8, f9, fa, fb⟩ := hat
        clear hs hp hz hyk hel hown hsl hpl hls1 hlp1 hsz
        unfold msgV at HOV
        go_wp2_with fail
        refine HOV.out.mono ?_
        rintro e w1 ⟨rfl, hc1⟩
        obtain ⟨hO1, hN1⟩ := HNX.out w1 hc1
        have HN1 := Aside0.mk hN1
        obtain ⟨⟨p0, p1, p2, p3, p4, p5, p6, p7, p8, p9, pa, pb⟩, hfz, hput, hgp⟩ := HEL.out w1 ys HYS.out HYK.out hO1
        have HPUT := Aside0.mk hput
        have HGP := Aside0.mk hgp
        have z0 : w1.frozen? ⟨g, k * 12, none⟩ = false := hfz 0
        have z1 : w1.frozen? ⟨g, k * 12 + 1, none⟩ = false := hfz 1
        have z2 : w1.frozen? ⟨g, k * 12 + 2, none⟩ = false := hfz 2
        have z3 : w1.frozen? ⟨g, k * 12 + 3, none⟩ = false := hfz 3
        have z4 : w1.frozen? ⟨g, k * 12 + 4, none⟩ = false := hfz 4
        have z5 : w1.frozen? ⟨g, k * 12 + 5, none⟩ = false := hfz 5
        have z6 : w1.frozen? ⟨g, k * 12 + 6, none⟩ = false := hfz 6
        have z7 : w1.frozen? ⟨g, k * 12 + 7, none⟩ = false := hfz 7
        have z8 : w1.frozen? ⟨g, k * 12 + 8, none⟩ = false := hfz 8
        have z9 : w1.frozen? ⟨g, k * 12 + 9, none⟩ = false := hfz 9
        have za : w1.frozen? ⟨g, k * 12 + 10, none⟩ = false := hfz 10
        have zb : w1.frozen? ⟨g, k * 12 + 11, none⟩ = false := hfz 11
        clear f0 f1 f2 f3 f4 f5 f6 f7 f8 f9 fa fb hc1 hO1 hN1 hput hgp hfz
        go_wp2_with fail
        obtain ⟨w2, hw2⟩ : ∃ w2, w2 = w1.setCells g (k * 12) (rawZ overZ) := ⟨_, rfl⟩
        have hput := HPUT.out
        have hgp := HGP.out
        rw [← hw2] at hput hgp
        go_roundg (zs.length - (k + 1))
        case measure => omega
        case rel => exact ⟨k + 1, ys.set k overZ, by omega, by go_num, ⟨by rw [List.length_set]; exact HYS.out⟩, HPUT, ⟨fun j hj => by rw [List.getElem?_set_ne (by omega)]; exact HT.out j (by omega)⟩, (HN1.out _ HGP.out).1, (HN1.out _ HGP.out).2⟩
      · go_wp2_with fail
        go_end0
        exact ⟨rfl, HG.out⟩
set_option maxHeartbeats 3200000 in
theorem overRecords2 (v : Value) (zs : List RecZ) (ow : Nat → Option Nat) (base : Nat) (w : World) (hL : RListP w base v zs ow) (hb : base ≤ w.heap.size) (hl : zs.length ≤ 1000000) (hsm : ∀ z ∈ zs, z.x.set.length ≤ 1000000 ∧ z.x.prs.length ≤ 1000000) :
    Calls Try.prog 28 #[v] w fun e w' => e = .returned (.tuple #[]) ∧ Ch w w' (fun i => base ≤ i ∧ (v.ownBlock = some i ∨ ow i ≠ none)) := by
  have hu := Try.underlying90
  obtain ⟨A, c, rfl, hc, hrd⟩ := hL.row.reads
  have HO := Aside0.mk hL
  clear hrd
  rcases Nat.eq_zero_or_pos zs.length with h0 | h0
  · obtain rfl := List.eq_nil_of_length_eq_zero h0
    clear hL hl h0
    go_enter Try.func28, Try.ntmps28
    go_wp2_with fail
    go_loopg [2] 1 (fun kq v2 w' => v2 = .int .i64 0 ∧ w' = w)
    case atStart => exact ⟨rfl, rfl⟩
    case round =>
      obtain ⟨rfl, rfl⟩ := hrel
      go_wp2_with fail
      go_end0
      exact ⟨rfl, Ch.refl _ _⟩
  · obtain ⟨g, cap, he, hbg, hlt, _⟩ := Kd.R_form hL.row h0
    simp only [Value.slice.injEq] at he
    obtain ⟨rfl, _, rfl⟩ := he
    have HSM := Aside0.mk hsm
    have HBG := Aside0.mk (And.intro hb hbg)
    clear hL hsm hb hbg hlt
    go_enter Try.func28, Try.ntmps28
    go_wp2_with fail
    go_loopg [2] zs.length (fun kq v2 w' => ∃ (k : Nat) (ys : List RecZ), k + kq = zs.length ∧ v2 = .int .i64 k ∧ Aside0 (ys.length = zs.length) ∧ Aside0 (Own kRR 90 w' base (.slice (some ⟨g, 0, none⟩) zs.length c) ys) ∧ Aside0 (∀ j, k ≤ j → ys[j]? = zs[j]?) ∧
      Aside0 (∀ j (h : j < zs.length), k ≤ j → Kd.R kI 3 w' base (fun i => ow i = some j) (zs[j]).sv (zs[j]).x.set ∧ Kd.R kPair 113 w' base (fun i => ow i = some j) (zs[j]).pv (zs[j]).x.prs) ∧ Aside0 (Ch w w' (fun i => base ≤ i ∧ ((Value.slice (some ⟨g, 0, none⟩) zs.length c).ownBlock = some i ∨ ow i ≠ none))))
    case atStart => exact ⟨0, zs, by omega, rfl, ⟨rfl⟩, ⟨HO.out.row⟩, ⟨fun _ _ => rfl⟩, ⟨fun j h _ => ⟨HO.out.sets j h, HO.out.prs j h⟩⟩, ⟨Ch.refl _ _⟩⟩
    case round =>
      obtain ⟨k, ys, hk, rfl, HYS, HO1, HT, HR, HG⟩ := hrel
      by_cases hlt : k < zs.length
      · obtain ⟨z, hz⟩ : ∃ z, z = zs[k] := ⟨_, rfl⟩
        obtain ⟨hs, hp⟩ := HR.out k hlt (Nat.le_refl _)
        obtain ⟨hsl, hpl⟩ := HSM.out _ (List.getElem_mem hlt)
        rw [← hz] at hs hp hsl hpl
        have hyk : ys[k]? = some z := by rw [HT.out k (Nat.le_refl _), hz]; exact List.getElem?_eq_getElem hlt
        obtain ⟨⟨xk, xp, xs, xa, xr, st, ps⟩, sv, pv⟩ := z
        replace hs : Kd.R kI 3 wr base (fun i => ow i = some k) sv st := hs
        replace hp : Kd.R kPair 113 wr base (fun i => ow i = some k) pv ps := hp
        replace hsl : st.length ≤ 1000000 := hsl
        replace hpl : ps.length ≤ 1000000 := hpl
        obtain ⟨A1, c1, rfl, _, _⟩ := Kd.R_reads hs
        obtain ⟨A2, c2, rfl, _, _⟩ := Kd.R_reads hp
        have hsz : base ≤ wr.heap.size := Nat.le_trans HBG.out.1 HG.out.size
        have hsO : Own kI 3 wr base (.slice A1 st.length c1) st := Kd.R_mono hs (fun _ _ => trivial)
        have hpO : Own kPair 113 wr base (.slice A2 ps.length c2) ps := Kd.R_mono hp (fun _ _ => trivial)
        have hfar : ∀ k, (Value.slice A2 ps.length c2).ownBlock = some k → (Value.slice A1 st.length c1).ownBlock ≠ some k := fun k hk e => by
          obtain ⟨cs, h3⟩ := own_blkV hpO hk
          obtain ⟨cs', h4⟩ := own_blkV hsO e
          rw [h3] at h4
          injection h4 with h4
          injection h4 with _ h4
          exact absurd h4 (by decide)
        have HOV := Aside0.mk (overInts (.slice A1 st.length c1) st base wr hsO hsz (by omega))
        have HOP := Aside0.mk (show ∀ w1, wr.grownBy w1 (Value.slice A1 st.length c1).ownBlock → Calls Try.prog 60 #[.slice A2 ps.length c2] w1 fun e w' => e = .returned (.tuple #[]) ∧ w1.grownBy w' (Value.slice A2 ps.length c2).ownBlock from fun w1 h3 => overPairs (.slice A2 ps.length c2) ps base w1 (hpO.other flat_pair h3 hfar) (Nat.le_trans hsz h3.size) (by omega))
        have hown : ∀ i, ((Value.slice A1 st.length c1).ownBlock = some i ∨ (Value.slice A2 ps.length c2).ownBlock = some i) → ow i = some k := fun i hi => by
          rcases hi with hi | hi
          · exact hs.1 i hi
          · exact hp.1 i hi
        have hel : ∀ (w1 : World) (us : List RecZ), us.length = zs.length → us[k]? = some ⟨⟨xk, xp, xs, xa, xr, st, ps⟩, .slice A1 st.length c1, .slice A2 ps.length c2⟩ → Own kRR 90 w1 base (.slice (some ⟨g, 0, none⟩) zs.length c) us → (w1.cell? ⟨g, k * 7 + 5, none⟩ = some (.slice A1 st.length c1) ∧ w1.cell? ⟨g, k * 7 + 6, none⟩ = some (.slice A2 ps.length c2)) ∧ (∀ j, j < 7 → ∃ u, w1.cell? ⟨g, k * 7 + j, none⟩ = some u) ∧ (∀ i, w1.frozen? ⟨g, k * 7 + i, none⟩ = false) ∧ Own kRR 90 (w1.setCells g (k * 7) (rawRZ overRZ)) base (.slice (some ⟨g, 0, none⟩) zs.length c) (us.set k overRZ) ∧ w1.grownBy (w1.setCells g (k * 7) (rawRZ overRZ)) (some g) := fun w1 us hus huk hO => by
          obtain ⟨ce, hcl, hM, hcc, hfr⟩ := Kd.R_elem hO zeroRZ (k : Int) (by omega) (by omega)
          have e : us.getD (k : Int).toNat zeroRZ = ⟨⟨xk, xp, xs, xa, xr, st, ps⟩, .slice A1 st.length c1, .slice A2 ps.length c2⟩ := by rw [Int.toNat_natCast, List.getD_eq_getElem?_getD, huk]; rfl
          rw [e] at hM
          obtain ⟨hce, h1, h2⟩ := hM
          obtain ⟨hput, hgp⟩ := Kd.R_seg hO (k : Int) (by omega) (by omega) (seg := rawRZ overRZ) (j := 0) hcl hcc (by decide) (x' := overRZ) (okp := fun _ => False) (by rw [hce]; exact ⟨rfl, rfl, rfl⟩) (fun _ h => h.elim)
          rw [hce] at hcc
          rw [Int.toNat_natCast] at hcc hfr hput hgp
          exact ⟨⟨hcc 5 _ rfl, hcc 6 _ rfl⟩, fun j hj => ⟨_, hcc j _ (List.getElem?_eq_getElem (show j < (rawRZ ⟨⟨xk, xp, xs, xa, xr, st, ps⟩, .slice A1 st.length c1, .slice A2 ps.length c2⟩).length from hj))⟩, hfr, hput, hgp⟩
        have HEL := Aside0.mk hel
        obtain ⟨⟨hc5, hc6⟩, _⟩ := hel wr ys HYS.out hyk HO1.out
        have HNX : Aside0 (∀ w1, Ch wr w1 (fun i => (Value.slice A1 st.length c1).ownBlock = some i ∨ (Value.slice A2 ps.length c2).ownBlock = some i) → Own kRR 90 w1 base (.slice (some ⟨g, 0, none⟩) zs.length c) ys ∧ (∀ w2, w1.grownBy w2 (some g) → Aside0 (∀ j (h : j < zs.length), k + 1 ≤ j → Kd.R kI 3 w2 base (fun i => ow i = some j) (zs[j]).sv (zs[j]).x.set ∧ Kd.R kPair 113 w2 base (fun i => ow i = some j) (zs[j]).pv (zs[j]).x.prs) ∧ Aside0 (Ch w w2 (fun i => base ≤ i ∧ ((Value.slice (some ⟨g, 0, none⟩) zs.length c).ownBlock = some i ∨ ow i ≠ none))))) := ⟨fun w1 hc1 => by
          have hc1' := hc1.mono (fun i hi => hown i hi)
          have hog : ow g = none := HO.out.out g rfl
          refine ⟨HO1.out.ch flat_RR hc1' (fun i hi e => by injection hi with hi; rw [← hi, hog] at e; cases e), fun w2 hg2 => ⟨⟨fun j hj hkj => ?_⟩, ⟨?_⟩⟩⟩
          · obtain ⟨q1, q2⟩ := HR.out j hj (by omega)
            have hst : ∀ i, ow i = some j → i < wr.heap.size → w2.heap[i]? = wr.heap[i]? := fun i hi hlt' => (hg2.block i (Nat.lt_of_lt_of_le hlt' hc1.size) (fun e => by injection e with e; rw [e, hog] at hi; cases hi)).trans (hc1'.block i hlt' (fun e => by rw [e] at hi; injection hi with hi; omega))
            exact ⟨Kd.R_step q1 hst, Kd.R_step q2 hst⟩
          · refine (HG.out.trans (hc1.mono (T := (fun i => base ≤ i ∧ ((Value.slice (some ⟨g, 0, none⟩) zs.length c).ownBlock = some i ∨ ow i ≠ none))) (fun i hi => ?_)) (fun i _ h => h)).trans (Ch.of_grown (S := (fun i => base ≤ i ∧ ((Value.slice (some ⟨g, 0, none⟩) zs.length c).ownBlock = some i ∨ ow i ≠ none))) hg2 (fun i hi => by injection hi with hi; exact ⟨by rw [← hi]; exact HBG.out.2, .inl (by rw [hi]; rfl)⟩)) (fun i _ h => h)
            rcases hi with hi | hi
            · exact ⟨(Kd.R_bound hsO).1 i hi |>.2.1, .inr (by rw [hown i (.inl hi)]; simp)⟩
            · exact ⟨(Kd.R_bound hpO).1 i hi |>.2.1, .inr (by rw [hown i (.inr hi)]; simp)⟩⟩
        have HYK := Aside0.mk hyk
        have hin : (k : Int) < zs.length := by omega
        have hi0 : (0 : Int) ≤ (k : Int) := by omega
        have hP : (⟨g, 0, none⟩ : Addr).add (k * 7) = ⟨g, k * 7, none⟩ := by rw [add_plain]
        clear hs hp hsO hpO hz hyk hel hown hsl hpl hsz hfar hc6
        go_wp2_with fail
        refine HOV.out.mono ?_
        rintro e w1 ⟨rfl, hg1⟩
        have HG1 := Aside0.mk hg1
        have hO1 := (HNX.out w1 ((Ch.of_grown (S := fun i => (Value.slice A1 st.length c1).ownBlock = some i) hg1 (fun i hi => hi)).mono (fun i hi => .inl hi))).1
        obtain ⟨⟨_, hd6⟩, _⟩ := HEL.out w1 ys HYS.out HYK.out hO1
        clear hg1 hO1 hc5
        go_wp2_with fail
        refine (HOP.out w1 HG1.out).mono ?_
        rintro e w2 ⟨rfl, hg2⟩
        have hc12 : Ch wr w2 (fun i => (Value.slice A1 st.length c1).ownBlock = some i ∨ (Value.slice A2 ps.length c2).ownBlock = some i) := (Ch.of_grown (S := fun i => (Value.slice A1 st.length c1).ownBlock = some i ∨ (Value.slice A2 ps.length c2).ownBlock = some i) HG1.out (fun i hi => .inl hi)).trans (Ch.of_grown (S := fun i => (Value.slice A1 st.length c1).ownBlock = some i ∨ (Value.slice A2 ps.length c2).ownBlock = some i) hg2 (fun i hi => .inr hi)) (fun _ _ e => e)
        obtain ⟨hO2, hN2⟩ := HNX.out w2 hc12
        have HN1 := Aside0.mk hN2
        obtain ⟨_, hany, hfz, hput, hgp⟩ := HEL.out w2 ys HYS.out HYK.out hO2
        have HPUT := Aside0.mk hput
        have HGP := Aside0.mk hgp
        obtain ⟨v0, p0⟩ := hany 0 (by decide)
        obtain ⟨v1, p1⟩ := hany 1 (by decide)
        obtain ⟨v2, p2⟩ := hany 2 (by decide)
        obtain ⟨v3, p3⟩ := hany 3 (by decide)
        obtain ⟨v4, p4⟩ := hany 4 (by decide)
        obtain ⟨v5, p5⟩ := hany 5 (by decide)
        obtain ⟨v6, p6⟩ := hany 6 (by decide)
        have p0 : w2.cell? ⟨g, k * 7, none⟩ = some v0 := p0
        have z0 : w2.frozen? ⟨g, k * 7, none⟩ = false := hfz 0
        have z1 : w2.frozen? ⟨g, k * 7 + 1, none⟩ = false := hfz 1
        have z2 : w2.frozen? ⟨g, k * 7 + 2, none⟩ = false := hfz 2
        have z3 : w2.frozen? ⟨g, k * 7 + 3, none⟩ = false := hfz 3
        have z4 : w2.frozen? ⟨g, k * 7 + 4, none⟩ = false := hfz 4
        have z5 : w2.frozen? ⟨g, k * 7 + 5, none⟩ = false := hfz 5
        have z6 : w2.frozen? ⟨g, k * 7 + 6, none⟩ = false := hfz 6
        clear hg2 hc12 hO2 hN2 hany hfz hput hgp hd6
        go_wp2_with fail
        obtain ⟨w3, hw3⟩ : ∃ w3, w3 = w2.setCells g (k * 7) (rawRZ overRZ) := ⟨_, rfl⟩
        go_roundg (zs.length - (k + 1))
        case measure => omega
        case rel => exact ⟨k + 1, ys.set k overRZ, by omega, by go_num, ⟨by rw [List.length_set]; exact HYS.out⟩, HPUT, ⟨fun j hj => by rw [List.getElem?_set_ne (by omega)]; exact HT.out j (by omega)⟩, (HN1.out _ HGP.out).1, (HN1.out _ HGP.out).2⟩
      · go_wp2_with fail
        go_end0
        exact ⟨rfl, HG.out⟩
set_option maxRecDepth 100000 in
set_option maxHeartbeats 1600000 in
theorem refTurn (j : JobD) (wk tr tmo : Int) (A1 A2 A3 A4 A5 : Option Addr) (c1 c2 c3 c4 c5 : Nat) (w : World) (hj : JobC w j A1 A2 A3 A4 A5 c1 c2 c3 c4 c5) (n : Int) (hw1 : 1 ≤ wk) (hw2 : wk ≤ 4) (v : Int) (hv : v = turnN true wk n) :
    Calls Try.prog 78 #[.agg #[.slice A1 j.splits.length c1, .int .i64 j.parts, .slice A2 j.map.length c2, .slice A3 j.combine.length c3, .slice A4 j.reduce.length c4, .int .i64 j.chunk, .int .i64 j.window, .int .i64 j.fuel, .slice A5 j.marks.length c5, .int .i64 wk, .int .i64 tr, .int .i64 tmo], .int .i64 n] w fun e w' => e = .returned (.int .i64 v) ∧ Below w.heap.size w w' := by
  have HV := Aside0.mk hv
  clear hv
  have HJ := Aside0.mk hj
  have hmx1 := Kd.C_max hj.s
  obtain ⟨wb, hwb⟩ : ∃ wb, wb = w.alloc (.cells #[.slice A1 j.splits.length c1, .int .i64 j.parts, .slice A2 j.map.length c2, .slice A3 j.combine.length c3, .slice A4 j.reduce.length c4, .int .i64 j.chunk, .int .i64 j.window, .int .i64 j.fuel, .slice A5 j.marks.length c5, .int .i64 wk, .int .i64 tr, .int .i64 tmo] 28) := ⟨_, rfl⟩
  obtain ⟨g, hg⟩ : ∃ g, g = w.heap.size := ⟨_, rfl⟩
  have hba := (Below.refl w.heap.size w).alloc (Nat.le_refl _) (.cells #[.slice A1 j.splits.length c1, .int .i64 j.parts, .slice A2 j.map.length c2, .slice A3 j.combine.length c3, .slice A4 j.reduce.length c4, .int .i64 j.chunk, .int .i64 j.window, .int .i64 j.fuel, .slice A5 j.marks.length c5, .int .i64 wk, .int .i64 tr, .int .i64 tmo] 28)
  rw [← hwb] at hba
  have hbk : wb.heap[g]? = some (.cells ([.slice A1 j.splits.length c1, .int .i64 j.parts, .slice A2 j.map.length c2, .slice A3 j.combine.length c3, .slice A4 j.reduce.length c4, .int .i64 j.chunk, .int .i64 j.window, .int .i64 j.fuel, .slice A5 j.marks.length c5, .int .i64 wk, .int .i64 tr, .int .i64 tmo]).toArray 28 (0, 0)) := by rw [hwb, hg]; exact alloc_at w _
  have HWB := Aside0.mk hwb
  have HG := Aside0.mk hg
  have HB := Aside0.mk hba
  have HBK := Aside0.mk hbk
  have hJb := HJ.out.below hba
  have HJb := Aside0.mk hJb
  have huc := Try.underlying28
  have huj := Try.underlying26
  clear hwb hg hba hbk hj hJb
  have q1 : wb.cell? ⟨g, 1, none⟩ = some (.int .i64 j.parts) := cell_of_blk HBK.out
  have q9 : wb.cell? ⟨g, 9, none⟩ = some (.int .i64 wk) := cell_of_blk HBK.out
  obtain ⟨k0, hk0⟩ : ∃ k0 : Int, k0 = n % 18446744073709551616 := ⟨_, rfl⟩
  obtain ⟨m, hm⟩ : ∃ m : Int, m = k0 % wk := ⟨_, rfl⟩
  have hm0 : 0 ≤ m := by rw [hm]; exact Int.emod_nonneg _ (by omega)
  have hm1 : m < wk := by rw [hm]; exact Int.emod_lt_of_pos _ (by omega)
  have hu1 : IntKind.u64.wrap n = k0 := by rw [u64_wrap, hk0]
  have hu2 : IntKind.u64.wrap wk = wk := by rw [u64_wrap]; omega
  have hu3 : k0.tmod wk = m := by rw [hm]; exact Int.tmod_eq_emod_of_nonneg (by omega)
  have hu4 : IntKind.u64.wrap m = m := by rw [u64_wrap]; omega
  have hu5 : IntKind.i64.wrap m = m := IntWalk.i64_in _ (by omega)
  have hu6 : wrap64 m = m := by unfold wrap64; omega
  have hz : (wk == 0) = false := beq_eq_false_iff_ne.2 (by omega)
  have HVM : Aside0 (v = 1 + m) := ⟨by rw [HV.out, turnN, if_pos rfl, ← hk0, ← hm]⟩
  clear hk0 hm
  go_enter Try.func78, Try.ntmps78
  go_upto_region 1 with (fail)
  rw [← HWB.out, ← HG.out]
  go_wp2_with fail
  go_ret
  first
    | exact ⟨by rw [HVM.out]; rfl, HB.out⟩
    | exact ⟨by rw [HVM.out]; simp [hu1, hu2, hu3, hu4, hu5, hu6], HB.out⟩

attribute [local go_sem] max2_int min2_int
def S_ (m : MaS) (k : Nat) : SpS := m.sp.getD k zeroS
def wonI (s : SpS) : Int := if s.won = true then s.att else 0
def upS (m : MaS) (k : Nat) (s : SpS) : MaS := { m with sp := m.sp.set k s }
def upV (cv : Nat → Value) (k : Nat) (v : Value) : Nat → Value := fun j => if j = k then v else cv j
def rfCells (c : CfgD) (h : CfH) (m : MaS) (cv : Nat → Value) : List Value := cfg12 c h ++ [.int .i64 m.now, .int .i64 (S_ m 0).asked, .int .i64 (S_ m 1).asked, .int .i64 (S_ m 2).asked, .int .i64 (S_ m 3).asked, .int .i64 (S_ m 4).asked, .int .i64 (S_ m 5).asked, .int .i64 (S_ m 0).tr, .int .i64 (S_ m 1).tr, .int .i64 (S_ m 2).tr, .int .i64 (S_ m 3).tr, .int .i64 (S_ m 4).tr, .int .i64 (S_ m 5).tr, .int .i64 (S_ m 0).at_, .int .i64 (S_ m 1).at_, .int .i64 (S_ m 2).at_, .int .i64 (S_ m 3).at_, .int .i64 (S_ m 4).at_, .int .i64 (S_ m 5).at_, .int .i64 (wonI (S_ m 0)), .int .i64 (wonI (S_ m 1)), .int .i64 (wonI (S_ m 2)), .int .i64 (wonI (S_ m 3)), .int .i64 (wonI (S_ m 4)), .int .i64 (wonI (S_ m 5)), cv 0, cv 1, cv 2, cv 3, cv 4, cv 5, .bool (m.rd.getD 0 false), .bool (m.rd.getD 1 false), .bool (m.rd.getD 2 false), .bool (m.rd.getD 3 false), .int .i64 m.st, .int .i64 m.why, .int .i64 m.round]
theorem rf_asked (c : CfgD) (h : CfH) (m : MaS) (cv : Nat → Value) (k : Nat) (hk : k < 6) (hl : k < m.sp.length) (a : Int) : (rfCells c h m cv).set (13 + k) (.int .i64 a) = rfCells c h (upS m k { S_ m k with asked := a }) cv := by
  match k, hk with
  | 0, _ => simp [rfCells, upS, S_, getD_set, hl, wonI]
  | 1, _ => simp [rfCells, upS, S_, getD_set, hl, wonI]
  | 2, _ => simp [rfCells, upS, S_, getD_set, hl, wonI]
  | 3, _ => simp [rfCells, upS, S_, getD_set, hl, wonI]
  | 4, _ => simp [rfCells, upS, S_, getD_set, hl, wonI]
  | 5, _ => simp [rfCells, upS, S_, getD_set, hl, wonI]
theorem rf_tr (c : CfgD) (h : CfH) (m : MaS) (cv : Nat → Value) (k : Nat) (hk : k < 6) (hl : k < m.sp.length) (a : Int) : (rfCells c h m cv).set (19 + k) (.int .i64 a) = rfCells c h (upS m k { S_ m k with tr := a }) cv := by
  match k, hk with
  | 0, _ => simp [rfCells, upS, S_, getD_set, hl, wonI]
  | 1, _ => simp [rfCells, upS, S_, getD_set, hl, wonI]
  | 2, _ => simp [rfCells, upS, S_, getD_set, hl, wonI]
  | 3, _ => simp [rfCells, upS, S_, getD_set, hl, wonI]
  | 4, _ => simp [rfCells, upS, S_, getD_set, hl, wonI]
  | 5, _ => simp [rfCells, upS, S_, getD_set, hl, wonI]
theorem rf_at (c : CfgD) (h : CfH) (m : MaS) (cv : Nat → Value) (k : Nat) (hk : k < 6) (hl : k < m.sp.length) (a : Int) : (rfCells c h m cv).set (25 + k) (.int .i64 a) = rfCells c h (upS m k { S_ m k with at_ := a }) cv := by
  match k, hk with
  | 0, _ => simp [rfCells, upS, S_, getD_set, hl, wonI]
  | 1, _ => simp [rfCells, upS, S_, getD_set, hl, wonI]
  | 2, _ => simp [rfCells, upS, S_, getD_set, hl, wonI]
  | 3, _ => simp [rfCells, upS, S_, getD_set, hl, wonI]
  | 4, _ => simp [rfCells, upS, S_, getD_set, hl, wonI]
  | 5, _ => simp [rfCells, upS, S_, getD_set, hl, wonI]
theorem rf_won (c : CfgD) (h : CfH) (m : MaS) (cv : Nat → Value) (k : Nat) (hk : k < 6) (hl : k < m.sp.length) (a : Int) (l : List Int) (v : Value) : ((rfCells c h m cv).set (31 + k) (.int .i64 a)).set (37 + k) v = rfCells c h (winK m k a l) (upV cv k v) := by
  match k, hk with
  | 0, _ => simp [rfCells, winK, S_, getD_set, hl, wonI, upV]
  | 1, _ => simp [rfCells, winK, S_, getD_set, hl, wonI, upV]
  | 2, _ => simp [rfCells, winK, S_, getD_set, hl, wonI, upV]
  | 3, _ => simp [rfCells, winK, S_, getD_set, hl, wonI, upV]
  | 4, _ => simp [rfCells, winK, S_, getD_set, hl, wonI, upV]
  | 5, _ => simp [rfCells, winK, S_, getD_set, hl, wonI, upV]
theorem rf_rd (c : CfgD) (h : CfH) (m : MaS) (cv : Nat → Value) (k : Nat) (hk : k < 4) (hl : m.rd.length = 4) : (rfCells c h m cv).set (43 + k) (.bool true) = rfCells c h (rdSet m k) cv := by
  match k, hk with
  | 0, _ => simp [rfCells, rdSet, S_, List.getElem?_set, hl]
  | 1, _ => simp [rfCells, rdSet, S_, List.getElem?_set, hl]
  | 2, _ => simp [rfCells, rdSet, S_, List.getElem?_set, hl]
  | 3, _ => simp [rfCells, rdSet, S_, List.getElem?_set, hl]
/-- The document's master stands at block gR; its rows in F's blocks. -/
structure RfP (w : World) (gR : Nat) (F : Nat → Prop) (c : CfgD) (h : CfH) (m : MaS) (cv : Nat → Value) (ok : Nat → Prop) : Prop where
  blk : w.heap[gR]? = some (.cells (rfCells c h m cv).toArray 75 (0, 0))
  cfg : ∀ w', Ch w w' F → JobH w' c.job h
  cnt : ∀ k, k < m.sp.length → (S_ m k).won = true → Kd.R kI 3 w 0 ok (cv k) (S_ m k).counts ∧ ((S_ m k).counts.length : Int) = c.job.parts
  att : ∀ k, (S_ m k).won = true → 1 ≤ (S_ m k).att
  okF : ∀ k, ok k → F k ∧ k ≠ gR
  fR : F gR
  flt : ∀ k, F k → k < w.heap.size
  len : m.sp.length = c.job.splits.length
  rd : m.rd.length = 4
  may : CfgMay c
def RfR (w : World) (gR : Nat) (F : Nat → Prop) (c : CfgD) (h : CfH) (m : MaS) : Prop := ∃ cv ok, RfP w gR F c h m cv ok
section
variable {w w' : World} {gR : Nat} {F S : Nat → Prop} {c : CfgD} {h : CfH} {m : MaS} {cv : Nat → Value} {ok : Nat → Prop}
theorem RfP.c_splits (p : RfP w gR F c h m cv ok) : w.cell? ⟨gR, 0, none⟩ = some (.slice h.A1 c.job.splits.length h.c1) := cell_of_blk p.blk
theorem RfP.c_parts (p : RfP w gR F c h m cv ok) : w.cell? ⟨gR, 1, none⟩ = some (.int .i64 c.job.parts) := cell_of_blk p.blk
theorem RfP.c_wk (p : RfP w gR F c h m cv ok) : w.cell? ⟨gR, 9, none⟩ = some (.int .i64 c.workers) := cell_of_blk p.blk
theorem RfP.c_tr (p : RfP w gR F c h m cv ok) : w.cell? ⟨gR, 10, none⟩ = some (.int .i64 c.tries) := cell_of_blk p.blk
theorem RfP.c_tmo (p : RfP w gR F c h m cv ok) : w.cell? ⟨gR, 11, none⟩ = some (.int .i64 c.timeout) := cell_of_blk p.blk
theorem RfP.c_now (p : RfP w gR F c h m cv ok) : w.cell? ⟨gR, 12, none⟩ = some (.int .i64 m.now) := cell_of_blk p.blk
theorem RfP.c_st (p : RfP w gR F c h m cv ok) : w.cell? ⟨gR, 47, none⟩ = some (.int .i64 m.st) := cell_of_blk p.blk
theorem RfP.c_why (p : RfP w gR F c h m cv ok) : w.cell? ⟨gR, 48, none⟩ = some (.int .i64 m.why) := cell_of_blk p.blk
theorem RfP.c_round (p : RfP w gR F c h m cv ok) : w.cell? ⟨gR, 49, none⟩ = some (.int .i64 m.round) := cell_of_blk p.blk
theorem RfP.c_asked (p : RfP w gR F c h m cv ok) (k : Nat) (hk : k < 6) : w.cell? ⟨gR, 13 + k, none⟩ = some (.int .i64 (S_ m k).asked) := by
  rw [cell_of_blk p.blk]
  match k, hk with
  | 0, _ => rfl
  | 1, _ => rfl
  | 2, _ => rfl
  | 3, _ => rfl
  | 4, _ => rfl
  | 5, _ => rfl
theorem RfP.c_try (p : RfP w gR F c h m cv ok) (k : Nat) (hk : k < 6) : w.cell? ⟨gR, 19 + k, none⟩ = some (.int .i64 (S_ m k).tr) := by
  rw [cell_of_blk p.blk]
  match k, hk with
  | 0, _ => rfl
  | 1, _ => rfl
  | 2, _ => rfl
  | 3, _ => rfl
  | 4, _ => rfl
  | 5, _ => rfl
theorem RfP.c_last (p : RfP w gR F c h m cv ok) (k : Nat) (hk : k < 6) : w.cell? ⟨gR, 25 + k, none⟩ = some (.int .i64 (S_ m k).at_) := by
  rw [cell_of_blk p.blk]
  match k, hk with
  | 0, _ => rfl
  | 1, _ => rfl
  | 2, _ => rfl
  | 3, _ => rfl
  | 4, _ => rfl
  | 5, _ => rfl
theorem RfP.c_won (p : RfP w gR F c h m cv ok) (k : Nat) (hk : k < 6) : w.cell? ⟨gR, 31 + k, none⟩ = some (.int .i64 (wonI (S_ m k))) := by
  rw [cell_of_blk p.blk]
  match k, hk with
  | 0, _ => rfl
  | 1, _ => rfl
  | 2, _ => rfl
  | 3, _ => rfl
  | 4, _ => rfl
  | 5, _ => rfl
theorem RfP.c_cnt (p : RfP w gR F c h m cv ok) (k : Nat) (hk : k < 6) : w.cell? ⟨gR, 37 + k, none⟩ = some (cv k) := by
  rw [cell_of_blk p.blk]
  match k, hk with
  | 0, _ => rfl
  | 1, _ => rfl
  | 2, _ => rfl
  | 3, _ => rfl
  | 4, _ => rfl
  | 5, _ => rfl
theorem RfP.c_rd (p : RfP w gR F c h m cv ok) (k : Nat) (hk : k < 4) : w.cell? ⟨gR, 43 + k, none⟩ = some (.bool (m.rd.getD k false)) := by
  rw [cell_of_blk p.blk]
  match k, hk with
  | 0, _ => rfl
  | 1, _ => rfl
  | 2, _ => rfl
  | 3, _ => rfl
theorem RfP.fr (p : RfP w gR F c h m cv ok) (j : Nat) : w.frozen? ⟨gR, j, none⟩ = false := frozen_of_blk p.blk
theorem RfP.n6 (p : RfP w gR F c h m cv ok) : c.job.splits.length ≤ 6 := by have := p.may.job.splits.2; omega
theorem RfP.ch (p : RfP w gR F c h m cv ok) (hc : Ch w w' S) (hS : ∀ k, F k → ¬ S k) (hj : ∀ w2, Ch w' w2 F → JobH w2 c.job h) : RfP w' gR F c h m cv ok where
  blk := hc.blk p.blk (hS _ p.fR)
  cfg := hj
  cnt k hk hw := ⟨Kd.R_step (p.cnt k hk hw).1 (fun i hi hlt => hc.block i hlt (hS i (p.okF i hi).1)), (p.cnt k hk hw).2⟩
  att := p.att
  okF := p.okF
  fR := p.fR
  flt k hk := Nat.lt_of_lt_of_le (p.flt k hk) hc.size
  len := p.len
  rd := p.rd
  may := p.may
theorem RfP.below (p : RfP w gR F c h m cv ok) (hb : Below w.heap.size w w') : RfP w' gR F c h m cv ok := p.ch (Ch.of_below hb (fun _ => False)) (fun _ _ h => h) (fun w2 hc => p.cfg w2 ((Ch.of_below hb F).trans hc (fun _ _ h => h)))
theorem RfR.below (p : RfR w gR F c h m) (hb : Below w.heap.size w w') : RfR w' gR F c h m := by
  obtain ⟨cv, ok, p⟩ := p
  exact ⟨cv, ok, p.below hb⟩
theorem RfR.ch (p : RfR w gR F c h m) (hc : Ch w w' S) (hS : ∀ k, F k → ¬ S k) (hj : ∀ w2, Ch w' w2 F → JobH w2 c.job h) : RfR w' gR F c h m := by
  obtain ⟨cv, ok, p⟩ := p
  exact ⟨cv, ok, p.ch hc hS hj⟩
theorem RfR.flt (p : RfR w gR F c h m) : ∀ k, F k → k < w.heap.size := by
  obtain ⟨cv, ok, p⟩ := p
  exact p.flt
/-- A cell is written; who won stays. -/
theorem RfP.put (p : RfP w gR F c h m cv ok) (j : Nat) (v : Value) (m' : MaS) (hm : (rfCells c h m cv).set j v = rfCells c h m' cv) (hl : m'.sp.length = m.sp.length) (hs : ∀ k, (S_ m' k).won = (S_ m k).won ∧ (S_ m' k).att = (S_ m k).att ∧ (S_ m' k).counts = (S_ m k).counts) (hrd : m'.rd.length = 4) : RfP (w.setCell ⟨gR, j, none⟩ v) gR F c h m' cv ok where
  blk := by rw [← hm]; exact setCell_blk p.blk v
  cfg w2 hc := p.cfg w2 (((Ch.refl w F).setCell _ _ p.fR).trans hc (fun _ _ h => h))
  cnt k hk hw := by
    obtain ⟨e1, e2, e3⟩ := hs k
    rw [e1] at hw
    rw [e3]
    obtain ⟨q1, q2⟩ := p.cnt k (by rw [← hl]; exact hk) hw
    exact ⟨Kd.R_step q1 (fun i hi hlt => ((Ch.refl w (fun k => k = gR)).setCell ⟨gR, j, none⟩ v rfl).block i hlt (p.okF i hi).2), q2⟩
  att k hw := by
    obtain ⟨e1, e2, e3⟩ := hs k
    rw [e1] at hw
    rw [e2]
    exact p.att k hw
  okF := p.okF
  fR := p.fR
  flt k hk := by simpa [World.setCell] using p.flt k hk
  len := by rw [hl]; exact p.len
  rd := hrd
  may := p.may
theorem RfP.chR (p : RfP w gR F c h m cv ok) (j : Nat) (v : Value) : Ch w (w.setCell ⟨gR, j, none⟩ v) F := (Ch.refl w F).setCell _ _ p.fR
theorem add13 (g o k : Nat) : (⟨g, o, none⟩ : Addr).add k = ⟨g, o + k, none⟩ := by
  simp [Addr.add]
theorem wonI_pos (p : RfP w gR F c h m cv ok) (k : Nat) : 0 < wonI (S_ m k) ↔ (S_ m k).won = true := by
  unfold wonI
  constructor
  · intro hh
    by_cases hw : (S_ m k).won = true
    · exact hw
    · rw [if_neg hw] at hh
      omega
  · intro hw
    rw [if_pos hw]
    have := p.att k hw
    omega
theorem wonI_zero (p : RfP w gR F c h m cv ok) (k : Nat) : wonI (S_ m k) = 0 ↔ (S_ m k).won = false := by
  unfold wonI
  constructor
  · intro hh
    by_cases hw : (S_ m k).won = true
    · rw [if_pos hw] at hh
      have := p.att k hw
      omega
    · simpa using hw
  · intro hw
    rw [hw]
    rfl
theorem rfHas (p : RfP w gR F c h m cv ok) (n : Int) (b : Bool) (hb : b = decide (0 ≤ n ∧ n < (m.sp.length : Int))) : Calls Try.prog 55 #[.pointer (some ⟨gR, 0, none⟩), .int .i64 n] w fun e w' => e = .returned (.bool b) ∧ w' = w := by
  have hc := p.c_splits
  rw [p.len] at hb
  clear p
  by_cases h0 : 0 ≤ n
  · by_cases h1 : n < (c.job.splits.length : Int)
    · have HB : Aside0 (b = true) := ⟨by rw [hb]; exact decide_eq_true ⟨h0, h1⟩⟩
      have h1' := decide_eq_true h1
      clear hb
      go_enter Try.func55, Try.ntmps55
      go_wp2_with fail
      go_ret
      exact ⟨by rw [HB.out]; rfl, rfl⟩
    · have HB : Aside0 (b = false) := ⟨by rw [hb]; exact decide_eq_false (fun h => h1 h.2)⟩
      have h1' := decide_eq_false h1
      clear hb
      go_enter Try.func55, Try.ntmps55
      go_wp2_with fail
      go_ret
      exact ⟨by rw [HB.out]; rfl, rfl⟩
  · have HB : Aside0 (b = false) := ⟨by rw [hb]; exact decide_eq_false (fun h => h0 h.1)⟩
    clear hb
    go_enter Try.func55, Try.ntmps55
    go_wp2_with fail
    go_ret
    exact ⟨by rw [HB.out]; rfl, rfl⟩
theorem rfTick (p : RfP w gR F c h m cv ok) (h0 : 0 ≤ m.now) (h1 : m.now ≤ 1099511627776) : Calls Try.prog 56 #[.pointer (some ⟨gR, 0, none⟩)] w fun e w' => e = .returned (.tuple #[]) ∧ RfP w' gR F c h { m with now := min (m.now + 1) 1099511627776 } cv ok ∧ Ch w w' F := by
  have hc := p.c_now
  have hf := p.fr 12
  have HP := Aside0.mk (p.put 12 (.int .i64 (min (m.now + 1) 1099511627776)) { m with now := min (m.now + 1) 1099511627776 } rfl rfl (fun k => ⟨rfl, rfl, rfl⟩) p.rd)
  have HC := Aside0.mk (p.chR 12 (.int .i64 (min (m.now + 1) 1099511627776)))
  clear p
  obtain ⟨m', hm'⟩ : ∃ m' : MaS, m' = { m with now := min (m.now + 1) 1099511627776 } := ⟨_, rfl⟩
  rw [← hm'] at HP ⊢
  clear hm'
  by_cases h : m.now + 1 ≤ 1099511627776
  · rw [show min (m.now + 1) 1099511627776 = m.now + 1 from by omega] at HP HC
    go_enter Try.func56, Try.ntmps56
    go_wp2_with fail
    go_end0
    exact ⟨rfl, HP.out, HC.out⟩
  · rw [show min (m.now + 1) 1099511627776 = 1099511627776 from by omega] at HP HC
    go_enter Try.func56, Try.ntmps56
    go_wp2_with fail
    go_end0
    exact ⟨rfl, HP.out, HC.out⟩
set_option maxHeartbeats 1600000 in
theorem rfWinners (p : RfP w gR F c h m cv ok) : Calls Try.prog 31 #[.pointer (some ⟨gR, 0, none⟩)] w fun e w' => ∃ v, e = .returned v ∧ Own kI 3 w' w.heap.size v (winners m) ∧ Below w.heap.size w w' := by
  have hc := p.c_splits
  have HP := Aside0.mk p
  have hN8 : c.job.splits.length ≤ 6 := by have := p.may.job.splits.2; omega
  have hml : winners m = winUp m c.job.splits.length := by unfold winners; rw [p.len]
  rw [hml]
  obtain ⟨N, hN⟩ : ∃ N, N = c.job.splits.length := ⟨_, rfl⟩
  rw [← hN] at hc hN8 ⊢
  have HN := Aside0.mk hN
  clear p hN hml
  go_enter Try.func31, Try.ntmps31
  go_wp2_with fail
  go_loopg [3, 4] N (fun kq v3 v4 w' => ∃ (k : Nat), k + kq = N ∧ v4 = .int .i64 k ∧ Aside0 (Own kI 3 w' w.heap.size v3 (winUp m k)) ∧ Aside0 (Below w.heap.size w w'))
  case atStart => exact ⟨0, by omega, rfl, ⟨Own.nil _ _ _ _⟩, ⟨Below.refl _ _⟩⟩
  case round =>
    obtain ⟨k, hk, rfl, HO, HB⟩ := hrel
    by_cases hlt : k < N
    · have hltI : (k : Int) < N := by omega
      have hk0 : (0 : Int) ≤ (k : Int) := by omega
      have q := HP.out.below HB.out
      have hc13 := q.c_splits
      have hk6 : k < 6 := by omega
      have hk6I : (k : Int) < 6 := by omega
      have f3 := q.c_won k hk6
      obtain ⟨z, hz⟩ : ∃ z, z = wonI (S_ m k) := ⟨_, rfl⟩
      rw [← hz] at f3
      have ha := add13 gR 31 k
      rw [← HN.out] at hc13
      have hwl := winUp_len m k
      have hz1 := wonI_pos q k
      rw [← hz] at hz1
      clear hz q hc
      cases hw : (m.sp.getD k zeroS).won
      · have hz2 : ¬ 0 < z := fun hh => by have h2 := hz1.1 hh; rw [show (S_ m k).won = false from hw] at h2; cases h2
        clear hz1
        have HU : Aside0 (winUp m (k + 1) = winUp m k) := ⟨by show (if _ then _ else _) = _; rw [if_neg (by rw [hw]; decide)]⟩
        clear hw
        go_wp2_with fail
        go_roundg (N - (k + 1))
        case measure => omega
        case rel => exact ⟨k + 1, by omega, by go_num, ⟨by rw [HU.out]; exact HO.out⟩, HB⟩
      · have hz2 : 0 < z := hz1.2 hw
        clear hz1
        have HU : Aside0 (winUp m (k + 1) = winUp m k ++ [(k : Int)]) := ⟨by show (if _ then _ else _) = _; rw [if_pos hw]⟩
        obtain ⟨A, cp, rfl, _, _⟩ := HO.out.reads
        obtain ⟨n, hn⟩ : ∃ n, n = (winUp m k).length := ⟨_, rfl⟩
        rw [← hn] at hwl
        have hb5 := (Below.refl wr.heap.size wr).alloc (Nat.le_refl _) (.cells #[.int .i64 k] 3)
        have HO5 := Aside0.mk (HO.out.below hb5)
        have HB5 := Aside0.mk (below_then HB.out HB.out.size hb5)
        have HL5 := Aside0.mk (int_C (wr.alloc (.cells #[.int .i64 k] 3)) (k : Int) (g := wr.heap.size) (alloc_at wr _))
        have hbs : w.heap.size ≤ (wr.alloc (.cells #[.int .i64 k] 3)).heap.size := HB5.out.size
        rw [← hn] at HO5 ⊢
        have HNN := Aside0.mk hn
        clear hb5 hw hn
        go_wp2_with (at_builtin; refine wpList_app_own (flat_int .i64) w.heap.size rfl _ _ 24 3 _ 8 rfl Try.underlying24 info_int rfl (by decide) (by decide) (.slice A n cp) (winUp m k) [(k : Int)] (some ⟨wr.heap.size, 0, none⟩) 1 1 rfl rfl HO5.out rfl HL5.out hbs (by rw [← HNN.out]; show (n + 1) * 8 ≤ 140737488355328; omega) ?_; intro v4 w4 hv4 hg4 hat4; rw [← HU.out] at hv4; have HV4 := Aside0.mk hv4; have HB4 := Aside0.mk (Below.ch HB5.out (Ch.of_grown (S := fun j => (Value.slice A n cp).ownBlock = some j) hg4 (fun j hj => hj)) hbs (fun j hj => HO5.out.base_ j hj)); clear hv4 hg4 hat4)
        go_roundg (N - (k + 1))
        case measure => omega
        case rel => exact ⟨k + 1, by omega, by go_num, HV4, HB4⟩
    · obtain rfl : k = N := by omega
      have hc13 := (HP.out.below HB.out).c_splits
      rw [← HN.out] at hc13
      have hltI : ¬ (k : Int) < k := by omega
      go_wp2_with fail
      go_ret
      exact ⟨_, rfl, HO.out, HB.out⟩
end
end Go.Proofs.Ytbnhhlahbhjogaa.K
namespace Go.Proofs.Ytbnhhlahbhjogaa.K
open Go.RowKit Go.Proofs.YtbnhhlahbhjogaaW.PrintWords Go.Proofs.YtbnhhlahbhjogaaW.PrintLast Go.Proofs.YtbnhhlahbhjogaaW.PrintMore Go.Proofs.Ytbnhhlahbhjogaa.U Go.Proofs.Ytbnhhlahbhjogaa.T
attribute [local go_sem] max2_int min2_int

theorem upS_self (m : MaS) (k : Nat) (s : SpS) (h : k < m.sp.length) : S_ (upS m k s) k = s := getD_set_self m.sp k h s
theorem upS_up (m : MaS) (k : Nat) (s t : SpS) : upS (upS m k s) k t = upS m k t := by
  unfold upS
  dsimp only
  rw [List.set_set]
theorem upS_won (m : MaS) (k : Nat) (s : SpS) (h1 : s.won = (S_ m k).won) (h2 : s.att = (S_ m k).att) (h3 : s.counts = (S_ m k).counts) (j : Nat) : (S_ (upS m k s) j).won = (S_ m j).won ∧ (S_ (upS m k s) j).att = (S_ m j).att ∧ (S_ (upS m k s) j).counts = (S_ m j).counts := by
  unfold S_ upS
  dsimp only
  rw [getD_set]
  by_cases h : j = k ∧ k < m.sp.length
  · rw [if_pos h, h.1]
    exact ⟨h1, h2, h3⟩
  · rw [if_neg h]
    exact ⟨rfl, rfl, rfl⟩
section
variable {w w' : World} {gR : Nat} {F S : Nat → Prop} {c : CfgD} {h : CfH} {m : MaS} {cv : Nat → Value} {ok : Nat → Prop}
theorem RfP.putD (p : RfP w gR F c h m cv ok) (j : Nat) (v : Value) (m' : MaS) (hm : (rfCells c h m cv).set j v = rfCells c h m' cv) (hl : m'.sp.length = m.sp.length) (hs : ∀ k, (S_ m' k).won = (S_ m k).won ∧ (S_ m' k).att = (S_ m k).att ∧ (S_ m' k).counts = (S_ m k).counts) (hrd : m'.rd.length = 4) : RfP ((w.setCell ⟨gR, j, none⟩ v).drew) gR F c h m' cv ok := (p.put j v m' hm hl hs hrd).below (below_drew _)
set_option maxHeartbeats 12800000 in
theorem rfWake (p : RfP w gR F c h m cv ok) (B : Int) (hB : MaB m B) (hB6 : B ≤ 1000000) :
    Calls Try.prog 57 #[.pointer (some ⟨gR, 0, none⟩)] w fun e w' => ∃ v, e = .returned v ∧ RfP w' gR F c h (wakeF c m).1 cv ok ∧ LetsP w' w.heap.size v (wakeF c m).2 ∧ Ch w w' F := by
  have hc := p.c_st
  have hcn := p.c_splits
  obtain ⟨N, hN⟩ : ∃ N, N = c.job.splits.length := ⟨_, rfl⟩
  have hNs : m.sp.length = N := by rw [hN]; exact p.len
  have hN6 : N ≤ 6 := by rw [hN]; exact p.n6
  have ht3 : c.tries ≤ 3 ∧ 1 ≤ c.tries := ⟨p.may.tries.2, p.may.tries.1⟩
  have hul := Try.underlying51
  have hum := Try.underlying45
  have huc := Try.underlying28
  have huj := Try.underlying26
  rw [← hN] at hcn
  obtain ⟨R, hR⟩ : ∃ R, R = wakeF c m := ⟨_, rfl⟩
  rw [← hR]
  have HRR := Aside0.mk hR
  have HP := Aside0.mk p
  have HN := Aside0.mk hN
  have HNS := Aside0.mk hNs
  have HT3 := Aside0.mk ht3
  have HBB := Aside0.mk hB
  clear p hN hNs hR hB ht3
  by_cases hst : m.st = 0
  · have HRW : Aside0 (R = wakeUp c m N) := ⟨by rw [HRR.out]; unfold wakeF; rw [if_pos hst, HNS.out]⟩
    have HST := Aside0.mk hst
    clear hst hc hcn
    go_enter Try.func57, Try.ntmps57
    go_wp2_with fail
    go_loopg [3, 4, 5] N (fun kq v3 v4 v5 w' => ∃ (k : Nat) (A3 : Option Addr) (n3 l3 : Nat), k + kq = N ∧ v4 = .int .i64 k ∧ v3 = .slice A3 l3 n3 ∧ Aside0 (l3 ≤ k) ∧ Aside0 (RfP w' gR F c h (wakeUp c m k).1 cv ok) ∧ Aside0 (LetsP w' w.heap.size (.slice A3 l3 n3) (wakeUp c m k).2) ∧ Aside0 (Ch w w' F))
    case atStart => exact ⟨0, none, 0, 0, by omega, rfl, rfl, ⟨by omega⟩, HP, ⟨LetsP.nil _ _⟩, ⟨Ch.refl _ _⟩⟩
    case round =>
      obtain ⟨k, A3, n3, l3, hk, rfl, rfl, HL3, HQ, HLE, HCH⟩ := hrel
      have hcn := HQ.out.c_splits
      rw [← HN.out] at hcn
      have hc := HQ.out.c_st
      obtain ⟨hsn, hsl, hsr, hss, hsw, hso⟩ := wakeUp_same c m k
      rw [hss, HST.out] at hc
      by_cases hlt : k < N
      · have hltI : (k : Int) < N := by omega
        have hk0 : (0 : Int) ≤ (k : Int) := by omega
        have hk6 : k < 6 := by omega
        have hk6I : (k : Int) < 6 := by omega
        have HK6 := Aside0.mk hk6
        have hget := wakeUp_get c m k k (Nat.le_refl _)
        obtain ⟨s, hs⟩ : ∃ s, s = m.sp.getD k zeroS := ⟨_, rfl⟩
        rw [← hs] at hget
        have hget : S_ (wakeUp c m k).1 k = s := hget
        have hmem : s ∈ m.sp := by rw [hs]; exact getD_mem_or _ _ (by rw [HNS.out]; exact hlt)
        have f31 := HQ.out.c_won k hk6
        have f19 := HQ.out.c_try k hk6
        have f25 := HQ.out.c_last k hk6
        have f12 := HQ.out.c_now
        have f11 := HQ.out.c_tmo
        have hwp := wonI_pos HQ.out k
        rw [hget] at f31 f19 f25 hwp
        rw [hsn] at f12
        obtain ⟨z, hz⟩ : ∃ z, z = wonI s := ⟨_, rfl⟩
        rw [← hz] at f31 hwp
        have d31 : wr.drew.cell? ⟨gR, 31 + k, none⟩ = some (.int .i64 z) := f31
        have d19 : wr.drew.cell? ⟨gR, 19 + k, none⟩ = some (.int .i64 s.tr) := f19
        have d25 : wr.drew.cell? ⟨gR, 25 + k, none⟩ = some (.int .i64 s.at_) := f25
        have d12 : wr.drew.cell? ⟨gR, 12, none⟩ = some (.int .i64 m.now) := f12
        have d11 : wr.drew.cell? ⟨gR, 11, none⟩ = some (.int .i64 c.timeout) := f11
        have a31 := add13 gR 31 k
        have a19 := add13 gR 19 k
        have a25 := add13 gR 25 k
        have hb := HBB.out
        have ha0 := hb.a0 s hmem
        have ha1 : s.asked ≤ 1000000 := Int.le_trans (hb.a1 s hmem) hB6
        have ht0 := hb.t0 s hmem
        have ht1 := hb.t1 s hmem
        have hl0 := hb.l0 s hmem
        have hl1 := hb.l1 s hmem
        have hn0 := hb.n0
        have hn1 := hb.n1
        have hm50 := HQ.out.may.timeout
        have hm0 : 0 ≤ c.timeout := by omega
        have hm1 : c.timeout ≤ 50 := hm50.2
        have htr3 : c.tries ≤ 3 := HT3.out.1
        have htr1 : 1 ≤ c.tries := HT3.out.2
        have HS := Aside0.mk hs
        have HGET := Aside0.mk hget
        have HSN := Aside0.mk hsn
        have HSL := Aside0.mk hsl
        have HWR : Aside0 (IntKind.i64.wrap ((k : Int) + s.asked) = (k : Int) + s.asked) := ⟨IntWalk.i64_in _ (by omega)⟩
        clear hget hs hsn hsl hsr hss hsw hso hmem hb hm50 hz hk6
        go_wp2_with fail
        cases hw : s.won with
        | true =>
          have hz0 : 0 < z := hwp.2 hw
          have hz0' : decide (0 < z) = true := decide_eq_true hz0
          have HSK : Aside0 (wakeUp c m (k + 1) = wakeUp c m k) := ⟨by show (if _ then _ else _) = _; rw [if_pos ((skip_iff c m k).2 (.inl (by rw [← HS.out]; exact hw)))]⟩
          clear hw hwp
          go_upto_region 5 with (fail)
          go_quiet (fail)
          go_wp2_with fail
          go_roundg (N - (k + 1))
          case measure => omega
          case rel => exact ⟨k + 1, A3, n3, l3, by omega, by go_num, rfl, ⟨by have := HL3.out; omega⟩, ⟨by rw [HSK.out]; exact HQ.out.below (pw_below_drewN (Below.refl _ _) _)⟩, ⟨by rw [HSK.out]; exact LetsP.below HLE.out (pw_below_drewN (Below.refl _ _) _)⟩, ⟨HCH.out.trans (Ch.of_below (pw_below_drewN (Below.refl _ _) _) F) (fun _ _ h => h)⟩⟩
        | false =>
          have hz0 : ¬ 0 < z := fun hh => by have := hwp.1 hh; rw [hw] at this; cases this
          have hz0' : decide (0 < z) = false := decide_eq_false hz0
          have HWF := Aside0.mk hw
          clear hw hwp
          by_cases h1 : 0 < s.tr
          · have h1' := decide_eq_true h1
            by_cases h2 : m.now - s.at_ < c.timeout
            · have h2' := decide_eq_true h2
              have HSK : Aside0 (wakeUp c m (k + 1) = wakeUp c m k) := ⟨by show (if _ then _ else _) = _; rw [if_pos ((skip_iff c m k).2 (.inr ⟨by rw [← HS.out]; exact h1, by rw [← HS.out]; exact h2⟩))]⟩
              go_upto_region 5 with (fail)
              go_quiet (fail)
              go_wp2_with fail
              go_roundg (N - (k + 1))
              case measure => omega
              case rel => exact ⟨k + 1, A3, n3, l3, by omega, by go_num, rfl, ⟨by have := HL3.out; omega⟩, ⟨by rw [HSK.out]; exact HQ.out.below (pw_below_drewN (Below.refl _ _) _)⟩, ⟨by rw [HSK.out]; exact LetsP.below HLE.out (pw_below_drewN (Below.refl _ _) _)⟩, ⟨HCH.out.trans (Ch.of_below (pw_below_drewN (Below.refl _ _) _) F) (fun _ _ h => h)⟩⟩
            · have h2' := decide_eq_false h2
              have HSKN : Aside0 (¬ skipW c m k = true) := ⟨fun hh => by rcases (skip_iff c m k).1 hh with hh | hh; (rw [← HS.out, HWF.out] at hh; cases hh); exact h2 (by rw [HS.out]; exact hh.2)⟩
              have HSK : Aside0 (wakeUp c m (k + 1) = ({ (wakeUp c m k).1 with sp := (wakeUp c m k).1.sp.set k (wakeSp c m.now s) }, (wakeUp c m k).2 ++ [runL c (k + s.asked) k (min (s.tr + 1) c.tries)])) := ⟨by show (if _ then _ else _) = _; rw [if_neg HSKN.out, HS.out]⟩
              obtain ⟨T, hT⟩ : ∃ T, (if c.tries < s.tr + 1 then c.tries else s.tr + 1) = T := ⟨_, rfl⟩
              have HMIN : Aside0 (min (s.tr + 1) c.tries = T) := ⟨by rw [← hT]; split <;> omega⟩
              go_upto_region 5 with (fail)
              go_quiet (fail)
              obtain ⟨wq, hwq⟩ : ∃ wq, wq = wr.drewN nq := ⟨_, rfl⟩
              have hbq : HeldN wr wq := by rw [hwq]; exact pw_below_drewN (Below.refl wr.heap.size wr) _
              rw [← hwq]
              clear f31 f19 f25 f12 f11 d31 d19 d25 d12 d11 hwq a31 a25
              have HQ5 := Aside0.mk (HQ.out.below hbq)
              have HLE5 := Aside0.mk (LetsP.below HLE.out hbq)
              have HC5 := Aside0.mk (HCH.out.trans (Ch.of_below (S := F) hbq) (fun _ _ h => h))
              clear hbq
              have f19 := HQ5.out.c_try k HK6.out
              rw [HGET.out] at f19
              have f10 := HQ5.out.c_tr
              have d19 : wq.drew.cell? ⟨gR, 19 + k, none⟩ = some (.int .i64 s.tr) := f19
              have d10 : wq.drew.cell? ⟨gR, 10, none⟩ = some (.int .i64 c.tries) := f10
              have z19 := HQ5.out.fr (19 + k)
              go_upto_region 6 with (fail)
              go_region
              all_goals
                obtain ⟨w6, hw6⟩ : ∃ w', w' = (wq.setCell ⟨gR, 19 + k, none⟩ (.int .i64 T)).drew := ⟨_, rfl⟩
                rw [← hw6]
                have hkl : k < (wakeUp c m k).1.sp.length := by rw [HSL.out, HNS.out]; exact hlt
                have q6 := HQ5.out.putD (19 + k) (.int .i64 T) _ (rf_tr c h _ cv k HK6.out hkl T) (List.length_set ..) (upS_won _ k _ rfl rfl rfl) HQ5.out.rd
                have hc6 : Ch wq w6 F := by rw [hw6]; exact ((Ch.refl wq F).setCell _ _ HQ5.out.fR).trans (Ch.of_below (S := F) (below_drew _)) (fun _ _ h => h)
                rw [← hw6] at q6
                rw [show S_ (wakeUp c m k).1 k = s from HGET.out] at q6
                have HQ6 := Aside0.mk q6
                have HLE6 := Aside0.mk (HLE5.out.ch hc6 (fun i hi hF => by have := Own.base_ HLE5.out i hi; have := HP.out.flt i hF; omega))
                have HC6 := Aside0.mk (HC5.out.trans hc6 (fun _ _ h => h))
                have HKL := Aside0.mk hkl
                clear q6 hc6 hw6 f19 f10 d19 d10 z19 hkl a19
                have f12 := HQ6.out.c_now
                have f25 := HQ6.out.c_last k HK6.out
                have d12 : w6.drew.cell? ⟨gR, 12, none⟩ = some (.int .i64 m.now) := by rw [← HSN.out]; exact f12
                have d25 : w6.drew.cell? ⟨gR, 25 + k, none⟩ = some (.int .i64 s.at_) := by
                  have e : (S_ (upS (wakeUp c m k).1 k { s with tr := T }) k).at_ = s.at_ := by rw [upS_self _ _ _ HKL.out]
                  rw [← e]; exact f25
                have z25 := HQ6.out.fr (25 + k)
                have a25 := add13 gR 25 k
                clear f12 f25
                go_upto_region 7 with (fail)
                go_region
                all_goals
                  obtain ⟨w7, hw7⟩ : ∃ w', w' = (w6.setCell ⟨gR, 25 + k, none⟩ (.int .i64 m.now)).drew := ⟨_, rfl⟩
                  rw [← hw7]
                  have hkl : k < (upS (wakeUp c m k).1 k { s with tr := T }).sp.length := by show k < (List.set _ _ _).length; rw [List.length_set]; exact HKL.out
                  have q7 := HQ6.out.putD (25 + k) (.int .i64 m.now) _ (rf_at c h _ cv k HK6.out hkl m.now) (List.length_set ..) (upS_won _ k _ rfl rfl rfl) HQ6.out.rd
                  have hc7 : Ch w6 w7 F := by rw [hw7]; exact ((Ch.refl w6 F).setCell _ _ HQ6.out.fR).trans (Ch.of_below (S := F) (below_drew _)) (fun _ _ h => h)
                  rw [← hw7] at q7
                  rw [upS_self _ _ _ HKL.out, upS_up] at q7
                  have HQ7 := Aside0.mk q7
                  have HLE7 := Aside0.mk (HLE6.out.ch hc7 (fun i hi hF => by have := Own.base_ HLE6.out i hi; have := HP.out.flt i hF; omega))
                  have HC7 := Aside0.mk (HC6.out.trans hc7 (fun _ _ h => h))
                  clear q7 hc7 hw7 d12 d25 z25 hkl a25
                  have HS7 : Aside0 (S_ (upS (wakeUp c m k).1 k { s with tr := T, at_ := m.now }) k = { s with tr := T, at_ := m.now }) := ⟨upS_self _ _ _ HKL.out⟩
                  have HK0 : Aside0 (∀ w', HeldN w7 w' → (w'.cell? ⟨gR, 13 + k, none⟩ = some (.int .i64 s.asked) ∧ w'.cell? ⟨gR, 0, none⟩ = some (.slice h.A1 N h.c1) ∧ w'.cell? ⟨gR, 1, none⟩ = some (.int .i64 c.job.parts) ∧ w'.cell? ⟨gR, 2, none⟩ = some (.slice h.A2 c.job.map.length h.c2) ∧ w'.cell? ⟨gR, 3, none⟩ = some (.slice h.A3 c.job.combine.length h.c3) ∧ w'.cell? ⟨gR, 4, none⟩ = some (.slice h.A4 c.job.reduce.length h.c4) ∧ w'.cell? ⟨gR, 5, none⟩ = some (.int .i64 c.job.chunk) ∧ w'.cell? ⟨gR, 6, none⟩ = some (.int .i64 c.job.window) ∧ w'.cell? ⟨gR, 7, none⟩ = some (.int .i64 c.job.fuel) ∧ w'.cell? ⟨gR, 8, none⟩ = some (.slice h.A5 c.job.marks.length h.c5) ∧ w'.cell? ⟨gR, 9, none⟩ = some (.int .i64 c.workers) ∧ w'.cell? ⟨gR, 10, none⟩ = some (.int .i64 c.tries) ∧ w'.cell? ⟨gR, 11, none⟩ = some (.int .i64 c.timeout))) := ⟨fun w' hw => by
                    have q := HQ7.out.below hw
                    have f13 := q.c_asked k HK6.out
                    rw [HS7.out] at f13
                    have f0 := q.c_splits
                    rw [← HN.out] at f0
                    exact ⟨f13, f0, cell_of_blk q.blk, cell_of_blk q.blk, cell_of_blk q.blk, cell_of_blk q.blk, cell_of_blk q.blk, cell_of_blk q.blk, cell_of_blk q.blk, cell_of_blk q.blk, cell_of_blk q.blk, cell_of_blk q.blk, cell_of_blk q.blk⟩⟩
                  have hh0 : HeldN w7 w7 := Below.refl _ _
                  have hhd : ∀ w', HeldN w7 w' → HeldN w7 w'.drew := fun w' h => h.then_ (below_drew w')
                  obtain ⟨TO, hTO⟩ : ∃ TO, TO = turnN true c.workers ((k : Int) + s.asked) := ⟨_, rfl⟩
                  have HTURN : Aside0 (∀ w', HeldN w7 w' → Calls Try.prog 78 #[.agg #[.slice h.A1 N h.c1, .int .i64 c.job.parts, .slice h.A2 c.job.map.length h.c2, .slice h.A3 c.job.combine.length h.c3, .slice h.A4 c.job.reduce.length h.c4, .int .i64 c.job.chunk, .int .i64 c.job.window, .int .i64 c.job.fuel, .slice h.A5 c.job.marks.length h.c5, .int .i64 c.workers, .int .i64 c.tries, .int .i64 c.timeout], .int .i64 ((k : Int) + s.asked)] w' fun e w'' => e = .returned (.int .i64 TO) ∧ HeldN w7 w'') := ⟨fun w' hw => by
                    have h1 := refTurn c.job c.workers c.tries c.timeout h.A1 h.A2 h.A3 h.A4 h.A5 h.c1 h.c2 h.c3 h.c4 h.c5 w' ((HQ7.out.below hw).cfg w' (Ch.refl _ _)) ((k : Int) + s.asked) HQ7.out.may.workers.1 HQ7.out.may.workers.2 TO hTO
                    rw [← HN.out] at h1
                    exact h1.mono (fun e w'' hh => ⟨hh.1, hw.then_ hh.2⟩)⟩
                  have HTO := Aside0.mk hTO
                  have a13 := add13 gR 13 k
                  clear hTO
                  go_upto_region 8 with (fail)
                  go_region_held_law (fun w' => (w'.cell? ⟨gR, 13 + k, none⟩ = some (.int .i64 s.asked) ∧ w'.cell? ⟨gR, 0, none⟩ = some (.slice h.A1 N h.c1) ∧ w'.cell? ⟨gR, 1, none⟩ = some (.int .i64 c.job.parts) ∧ w'.cell? ⟨gR, 2, none⟩ = some (.slice h.A2 c.job.map.length h.c2) ∧ w'.cell? ⟨gR, 3, none⟩ = some (.slice h.A3 c.job.combine.length h.c3) ∧ w'.cell? ⟨gR, 4, none⟩ = some (.slice h.A4 c.job.reduce.length h.c4) ∧ w'.cell? ⟨gR, 5, none⟩ = some (.int .i64 c.job.chunk) ∧ w'.cell? ⟨gR, 6, none⟩ = some (.int .i64 c.job.window) ∧ w'.cell? ⟨gR, 7, none⟩ = some (.int .i64 c.job.fuel) ∧ w'.cell? ⟨gR, 8, none⟩ = some (.slice h.A5 c.job.marks.length h.c5) ∧ w'.cell? ⟨gR, 9, none⟩ = some (.int .i64 c.workers) ∧ w'.cell? ⟨gR, 10, none⟩ = some (.int .i64 c.tries) ∧ w'.cell? ⟨gR, 11, none⟩ = some (.int .i64 c.timeout))) (first | assumption | exact HK0.out _ (by first | assumption | exact hhd _ hh0))
                    (first | (go_at_call 78; (try rw [HWR.out]); ((with_reducible refine (HTURN.out _ (by first | assumption | exact hhd _ hh0)).mono ?_); rintro e w8 ⟨rfl, hH8⟩)))
                  all_goals
                    have HQ8 := Aside0.mk (HQ7.out.below hH8)
                    have HLE8 := Aside0.mk (LetsP.below HLE7.out hH8)
                    have HC8 := Aside0.mk (HC7.out.trans (Ch.of_below (S := F) hH8) (fun _ _ h => h))
                    clear hH8 HK0 HTURN hh0 hhd
                    have f13 := HQ8.out.c_asked k HK6.out
                    rw [HS7.out] at f13
                    have d13 : w8.drew.cell? ⟨gR, 13 + k, none⟩ = some (.int .i64 s.asked) := f13
                    have z13 := HQ8.out.fr (13 + k)
                    go_upto_region 9 with (fail)
                    go_region
                    all_goals
                      obtain ⟨w9, hw9⟩ : ∃ w', w' = (w8.setCell ⟨gR, 13 + k, none⟩ (.int .i64 (s.asked + 1))).drew := ⟨_, rfl⟩
                      rw [← hw9]
                      have hkl : k < (upS (wakeUp c m k).1 k { s with tr := T, at_ := m.now }).sp.length := by show k < (List.set _ _ _).length; rw [List.length_set]; exact HKL.out
                      have q9 := HQ8.out.putD (13 + k) (.int .i64 (s.asked + 1)) _ (rf_asked c h _ cv k HK6.out hkl (s.asked + 1)) (List.length_set ..) (upS_won _ k _ rfl rfl rfl) HQ8.out.rd
                      have hc9 : Ch w8 w9 F := by rw [hw9]; exact ((Ch.refl w8 F).setCell _ _ HQ8.out.fR).trans (Ch.of_below (S := F) (below_drew _)) (fun _ _ h => h)
                      rw [← hw9] at q9
                      rw [HS7.out, upS_up] at q9
                      have HQ9 : Aside0 (RfP w9 gR F c h (wakeUp c m (k + 1)).1 cv ok) := ⟨by
                        rw [HSK.out]
                        show RfP w9 gR F c h (upS (wakeUp c m k).1 k (wakeSp c m.now s)) cv ok
                        unfold wakeSp
                        rw [HMIN.out]
                        exact q9⟩
                      have HLE9 := Aside0.mk (HLE8.out.ch hc9 (fun i hi hF => by have := Own.base_ HLE8.out i hi; have := HP.out.flt i hF; omega))
                      have HC9 := Aside0.mk (HC8.out.trans hc9 (fun _ _ h => h))
                      have f19 : w9.cell? ⟨gR, 19 + k, none⟩ = some (.int .i64 T) := by
                        have e := q9.c_try k HK6.out
                        rw [upS_self _ _ _ HKL.out] at e
                        exact e
                      have a19 := add13 gR 19 k
                      have HAPP : Aside0 (∀ ty, Runs Try.prog (Builtin.append_ #[39, 39] ty #[.slice A3 l3 n3, .slice (some ⟨w9.heap.size, 0, none⟩) 1 1]) (w9.alloc (.cells #[.int .i64 0, .int .i64 TO, .int .i64 1, .int .i64 k, .int .i64 T, .int .i64 0, .int .i64 0, .int .i64 0, .int .i64 0, .int .i64 0, .slice none 0 0, .slice none 0 0] 51)) fun v w10 => ∃ A8 n8, v = .slice A8 (l3 + 1) n8 ∧ Aside0 (LetsP w10 w.heap.size (.slice A8 (l3 + 1) n8) (wakeUp c m (k + 1)).2 ∧ RfP w10 gR F c h (wakeUp c m (k + 1)).1 cv ok ∧ Ch w w10 F)) := ⟨fun ty => by
                        obtain ⟨A', n', e', hl3', _⟩ := Own.reads HLE9.out
                        injection e' with _ hl3 _
                        have hlt : (wakeUp c m k).2.length = l3 := by rw [List.length_map] at hl3; omega
                        refine (lets_app w9 w.heap.size (.slice A3 l3 n3) _ (runL c ((k : Int) + s.asked) k T) HLE9.out HC9.out.size (by rw [hlt]; have := HL3.out; omega) _ (by rw [HTO.out]; rfl) ty).mono ?_
                        rintro v w10 ⟨hO9, hc9⟩
                        obtain ⟨A8, n8, rfl, _⟩ := hO9.reads
                        rw [List.length_append, hlt, List.length_singleton] at hO9 ⊢
                        have hown : ∀ i, (Value.slice A3 l3 n3).ownBlock = some i → w.heap.size ≤ i := fun i hi => Own.base_ HLE9.out i hi
                        refine ⟨A8, n8, rfl, ⟨?_, ?_, ?_⟩⟩
                        · rw [HSK.out, HMIN.out]; exact hO9
                        · refine HQ9.out.ch hc9 (fun i hi e => by have := HP.out.flt i hi; have := hown i e; omega) (fun w2 hc2 => HP.out.cfg w2 ?_)
                          exact (HC9.out.trans hc9 (fun i hlt e => by have := hown i e; omega)).trans hc2 (fun _ _ h => h)
                        · exact HC9.out.trans hc9 (fun i hlt e => by have := hown i e; omega)⟩
                      clear q9 hc9 hw9 f13 d13 z13 a13 hkl
                      go_wp2_with (at_builtin; refine wpList_append_runs rfl _ _ _ _ rfl _ _ rfl rfl (HAPP.out _) ?_; rintro v2 w10 ⟨A8, n8, rfl, hA8⟩)
                      go_roundg (N - (k + 1))
                      case measure => omega
                      case rel => exact ⟨k + 1, A8, n8, l3 + 1, by omega, by go_num, rfl, ⟨by have := HL3.out; omega⟩, ⟨hA8.out.2.1⟩, ⟨hA8.out.1⟩, ⟨hA8.out.2.2⟩⟩
          · have h1' := decide_eq_false h1
            have HSKN : Aside0 (¬ skipW c m k = true) := ⟨fun hh => by rcases (skip_iff c m k).1 hh with hh | hh; (rw [← HS.out, HWF.out] at hh; cases hh); exact h1 (by rw [HS.out]; exact hh.1)⟩
            have HSK : Aside0 (wakeUp c m (k + 1) = ({ (wakeUp c m k).1 with sp := (wakeUp c m k).1.sp.set k (wakeSp c m.now s) }, (wakeUp c m k).2 ++ [runL c (k + s.asked) k (min (s.tr + 1) c.tries)])) := ⟨by show (if _ then _ else _) = _; rw [if_neg HSKN.out, HS.out]⟩
            obtain ⟨T, hT⟩ : ∃ T, (if c.tries < s.tr + 1 then c.tries else s.tr + 1) = T := ⟨_, rfl⟩
            have HMIN : Aside0 (min (s.tr + 1) c.tries = T) := ⟨by rw [← hT]; split <;> omega⟩
            go_upto_region 5 with (fail)
            go_quiet (fail)
            obtain ⟨wq, hwq⟩ : ∃ wq, wq = wr.drewN nq := ⟨_, rfl⟩
            have hbq : HeldN wr wq := by rw [hwq]; exact pw_below_drewN (Below.refl wr.heap.size wr) _
            rw [← hwq]
            clear f31 f19 f25 f12 f11 d31 d19 d25 d12 d11 hwq a31 a25
            have HQ5 := Aside0.mk (HQ.out.below hbq)
            have HLE5 := Aside0.mk (LetsP.below HLE.out hbq)
            have HC5 := Aside0.mk (HCH.out.trans (Ch.of_below (S := F) hbq) (fun _ _ h => h))
            clear hbq
            have f19 := HQ5.out.c_try k HK6.out
            rw [HGET.out] at f19
            have f10 := HQ5.out.c_tr
            have d19 : wq.drew.cell? ⟨gR, 19 + k, none⟩ = some (.int .i64 s.tr) := f19
            have d10 : wq.drew.cell? ⟨gR, 10, none⟩ = some (.int .i64 c.tries) := f10
            have z19 := HQ5.out.fr (19 + k)
            go_upto_region 6 with (fail)
            go_region
            all_goals
              obtain ⟨w6, hw6⟩ : ∃ w', w' = (wq.setCell ⟨gR, 19 + k, none⟩ (.int .i64 T)).drew := ⟨_, rfl⟩
              rw [← hw6]
              have hkl : k < (wakeUp c m k).1.sp.length := by rw [HSL.out, HNS.out]; exact hlt
              have q6 := HQ5.out.putD (19 + k) (.int .i64 T) _ (rf_tr c h _ cv k HK6.out hkl T) (List.length_set ..) (upS_won _ k _ rfl rfl rfl) HQ5.out.rd
              have hc6 : Ch wq w6 F := by rw [hw6]; exact ((Ch.refl wq F).setCell _ _ HQ5.out.fR).trans (Ch.of_below (S := F) (below_drew _)) (fun _ _ h => h)
              rw [← hw6] at q6
              rw [show S_ (wakeUp c m k).1 k = s from HGET.out] at q6
              have HQ6 := Aside0.mk q6
              have HLE6 := Aside0.mk (HLE5.out.ch hc6 (fun i hi hF => by have := Own.base_ HLE5.out i hi; have := HP.out.flt i hF; omega))
              have HC6 := Aside0.mk (HC5.out.trans hc6 (fun _ _ h => h))
              have HKL := Aside0.mk hkl
              clear q6 hc6 hw6 f19 f10 d19 d10 z19 hkl a19
              have f12 := HQ6.out.c_now
              have f25 := HQ6.out.c_last k HK6.out
              have d12 : w6.drew.cell? ⟨gR, 12, none⟩ = some (.int .i64 m.now) := by rw [← HSN.out]; exact f12
              have d25 : w6.drew.cell? ⟨gR, 25 + k, none⟩ = some (.int .i64 s.at_) := by
                have e : (S_ (upS (wakeUp c m k).1 k { s with tr := T }) k).at_ = s.at_ := by rw [upS_self _ _ _ HKL.out]
                rw [← e]; exact f25
              have z25 := HQ6.out.fr (25 + k)
              have a25 := add13 gR 25 k
              clear f12 f25
              go_upto_region 7 with (fail)
              go_region
              all_goals
                obtain ⟨w7, hw7⟩ : ∃ w', w' = (w6.setCell ⟨gR, 25 + k, none⟩ (.int .i64 m.now)).drew := ⟨_, rfl⟩
                rw [← hw7]
                have hkl : k < (upS (wakeUp c m k).1 k { s with tr := T }).sp.length := by show k < (List.set _ _ _).length; rw [List.length_set]; exact HKL.out
                have q7 := HQ6.out.putD (25 + k) (.int .i64 m.now) _ (rf_at c h _ cv k HK6.out hkl m.now) (List.length_set ..) (upS_won _ k _ rfl rfl rfl) HQ6.out.rd
                have hc7 : Ch w6 w7 F := by rw [hw7]; exact ((Ch.refl w6 F).setCell _ _ HQ6.out.fR).trans (Ch.of_below (S := F) (below_drew _)) (fun _ _ h => h)
                rw [← hw7] at q7
                rw [upS_self _ _ _ HKL.out, upS_up] at q7
                have HQ7 := Aside0.mk q7
                have HLE7 := Aside0.mk (HLE6.out.ch hc7 (fun i hi hF => by have := Own.base_ HLE6.out i hi; have := HP.out.flt i hF; omega))
                have HC7 := Aside0.mk (HC6.out.trans hc7 (fun _ _ h => h))
                clear q7 hc7 hw7 d12 d25 z25 hkl a25
                have HS7 : Aside0 (S_ (upS (wakeUp c m k).1 k { s with tr := T, at_ := m.now }) k = { s with tr := T, at_ := m.now }) := ⟨upS_self _ _ _ HKL.out⟩
                have HK0 : Aside0 (∀ w', HeldN w7 w' → (w'.cell? ⟨gR, 13 + k, none⟩ = some (.int .i64 s.asked) ∧ w'.cell? ⟨gR, 0, none⟩ = some (.slice h.A1 N h.c1) ∧ w'.cell? ⟨gR, 1, none⟩ = some (.int .i64 c.job.parts) ∧ w'.cell? ⟨gR, 2, none⟩ = some (.slice h.A2 c.job.map.length h.c2) ∧ w'.cell? ⟨gR, 3, none⟩ = some (.slice h.A3 c.job.combine.length h.c3) ∧ w'.cell? ⟨gR, 4, none⟩ = some (.slice h.A4 c.job.reduce.length h.c4) ∧ w'.cell? ⟨gR, 5, none⟩ = some (.int .i64 c.job.chunk) ∧ w'.cell? ⟨gR, 6, none⟩ = some (.int .i64 c.job.window) ∧ w'.cell? ⟨gR, 7, none⟩ = some (.int .i64 c.job.fuel) ∧ w'.cell? ⟨gR, 8, none⟩ = some (.slice h.A5 c.job.marks.length h.c5) ∧ w'.cell? ⟨gR, 9, none⟩ = some (.int .i64 c.workers) ∧ w'.cell? ⟨gR, 10, none⟩ = some (.int .i64 c.tries) ∧ w'.cell? ⟨gR, 11, none⟩ = some (.int .i64 c.timeout))) := ⟨fun w' hw => by
                  have q := HQ7.out.below hw
                  have f13 := q.c_asked k HK6.out
                  rw [HS7.out] at f13
                  have f0 := q.c_splits
                  rw [← HN.out] at f0
                  exact ⟨f13, f0, cell_of_blk q.blk, cell_of_blk q.blk, cell_of_blk q.blk, cell_of_blk q.blk, cell_of_blk q.blk, cell_of_blk q.blk, cell_of_blk q.blk, cell_of_blk q.blk, cell_of_blk q.blk, cell_of_blk q.blk, cell_of_blk q.blk⟩⟩
                have hh0 : HeldN w7 w7 := Below.refl _ _
                have hhd : ∀ w', HeldN w7 w' → HeldN w7 w'.drew := fun w' h => h.then_ (below_drew w')
                obtain ⟨TO, hTO⟩ : ∃ TO, TO = turnN true c.workers ((k : Int) + s.asked) := ⟨_, rfl⟩
                have HTURN : Aside0 (∀ w', HeldN w7 w' → Calls Try.prog 78 #[.agg #[.slice h.A1 N h.c1, .int .i64 c.job.parts, .slice h.A2 c.job.map.length h.c2, .slice h.A3 c.job.combine.length h.c3, .slice h.A4 c.job.reduce.length h.c4, .int .i64 c.job.chunk, .int .i64 c.job.window, .int .i64 c.job.fuel, .slice h.A5 c.job.marks.length h.c5, .int .i64 c.workers, .int .i64 c.tries, .int .i64 c.timeout], .int .i64 ((k : Int) + s.asked)] w' fun e w'' => e = .returned (.int .i64 TO) ∧ HeldN w7 w'') := ⟨fun w' hw => by
                  have h1 := refTurn c.job c.workers c.tries c.timeout h.A1 h.A2 h.A3 h.A4 h.A5 h.c1 h.c2 h.c3 h.c4 h.c5 w' ((HQ7.out.below hw).cfg w' (Ch.refl _ _)) ((k : Int) + s.asked) HQ7.out.may.workers.1 HQ7.out.may.workers.2 TO hTO
                  rw [← HN.out] at h1
                  exact h1.mono (fun e w'' hh => ⟨hh.1, hw.then_ hh.2⟩)⟩
                have HTO := Aside0.mk hTO
                have a13 := add13 gR 13 k
                clear hTO
                go_upto_region 8 with (fail)
                go_region_held_law (fun w' => (w'.cell? ⟨gR, 13 + k, none⟩ = some (.int .i64 s.asked) ∧ w'.cell? ⟨gR, 0, none⟩ = some (.slice h.A1 N h.c1) ∧ w'.cell? ⟨gR, 1, none⟩ = some (.int .i64 c.job.parts) ∧ w'.cell? ⟨gR, 2, none⟩ = some (.slice h.A2 c.job.map.length h.c2) ∧ w'.cell? ⟨gR, 3, none⟩ = some (.slice h.A3 c.job.combine.length h.c3) ∧ w'.cell? ⟨gR, 4, none⟩ = some (.slice h.A4 c.job.reduce.length h.c4) ∧ w'.cell? ⟨gR, 5, none⟩ = some (.int .i64 c.job.chunk) ∧ w'.cell? ⟨gR, 6, none⟩ = some (.int .i64 c.job.window) ∧ w'.cell? ⟨gR, 7, none⟩ = some (.int .i64 c.job.fuel) ∧ w'.cell? ⟨gR, 8, none⟩ = some (.slice h.A5 c.job.marks.length h.c5) ∧ w'.cell? ⟨gR, 9, none⟩ = some (.int .i64 c.workers) ∧ w'.cell? ⟨gR, 10, none⟩ = some (.int .i64 c.tries) ∧ w'.cell? ⟨gR, 11, none⟩ = some (.int .i64 c.timeout))) (first | assumption | exact HK0.out _ (by first | assumption | exact hhd _ hh0))
                  (first | (go_at_call 78; (try rw [HWR.out]); ((with_reducible refine (HTURN.out _ (by first | assumption | exact hhd _ hh0)).mono ?_); rintro e w8 ⟨rfl, hH8⟩)))
                all_goals
                  have HQ8 := Aside0.mk (HQ7.out.below hH8)
                  have HLE8 := Aside0.mk (LetsP.below HLE7.out hH8)
                  have HC8 := Aside0.mk (HC7.out.trans (Ch.of_below (S := F) hH8) (fun _ _ h => h))
                  clear hH8 HK0 HTURN hh0 hhd
                  have f13 := HQ8.out.c_asked k HK6.out
                  rw [HS7.out] at f13
                  have d13 : w8.drew.cell? ⟨gR, 13 + k, none⟩ = some (.int .i64 s.asked) := f13
                  have z13 := HQ8.out.fr (13 + k)
                  go_upto_region 9 with (fail)
                  go_region
                  all_goals
                    obtain ⟨w9, hw9⟩ : ∃ w', w' = (w8.setCell ⟨gR, 13 + k, none⟩ (.int .i64 (s.asked + 1))).drew := ⟨_, rfl⟩
                    rw [← hw9]
                    have hkl : k < (upS (wakeUp c m k).1 k { s with tr := T, at_ := m.now }).sp.length := by show k < (List.set _ _ _).length; rw [List.length_set]; exact HKL.out
                    have q9 := HQ8.out.putD (13 + k) (.int .i64 (s.asked + 1)) _ (rf_asked c h _ cv k HK6.out hkl (s.asked + 1)) (List.length_set ..) (upS_won _ k _ rfl rfl rfl) HQ8.out.rd
                    have hc9 : Ch w8 w9 F := by rw [hw9]; exact ((Ch.refl w8 F).setCell _ _ HQ8.out.fR).trans (Ch.of_below (S := F) (below_drew _)) (fun _ _ h => h)
                    rw [← hw9] at q9
                    rw [HS7.out, upS_up] at q9
                    have HQ9 : Aside0 (RfP w9 gR F c h (wakeUp c m (k + 1)).1 cv ok) := ⟨by
                      rw [HSK.out]
                      show RfP w9 gR F c h (upS (wakeUp c m k).1 k (wakeSp c m.now s)) cv ok
                      unfold wakeSp
                      rw [HMIN.out]
                      exact q9⟩
                    have HLE9 := Aside0.mk (HLE8.out.ch hc9 (fun i hi hF => by have := Own.base_ HLE8.out i hi; have := HP.out.flt i hF; omega))
                    have HC9 := Aside0.mk (HC8.out.trans hc9 (fun _ _ h => h))
                    have f19 : w9.cell? ⟨gR, 19 + k, none⟩ = some (.int .i64 T) := by
                      have e := q9.c_try k HK6.out
                      rw [upS_self _ _ _ HKL.out] at e
                      exact e
                    have a19 := add13 gR 19 k
                    have HAPP : Aside0 (∀ ty, Runs Try.prog (Builtin.append_ #[39, 39] ty #[.slice A3 l3 n3, .slice (some ⟨w9.heap.size, 0, none⟩) 1 1]) (w9.alloc (.cells #[.int .i64 0, .int .i64 TO, .int .i64 1, .int .i64 k, .int .i64 T, .int .i64 0, .int .i64 0, .int .i64 0, .int .i64 0, .int .i64 0, .slice none 0 0, .slice none 0 0] 51)) fun v w10 => ∃ A8 n8, v = .slice A8 (l3 + 1) n8 ∧ Aside0 (LetsP w10 w.heap.size (.slice A8 (l3 + 1) n8) (wakeUp c m (k + 1)).2 ∧ RfP w10 gR F c h (wakeUp c m (k + 1)).1 cv ok ∧ Ch w w10 F)) := ⟨fun ty => by
                      obtain ⟨A', n', e', hl3', _⟩ := Own.reads HLE9.out
                      injection e' with _ hl3 _
                      have hlt : (wakeUp c m k).2.length = l3 := by rw [List.length_map] at hl3; omega
                      refine (lets_app w9 w.heap.size (.slice A3 l3 n3) _ (runL c ((k : Int) + s.asked) k T) HLE9.out HC9.out.size (by rw [hlt]; have := HL3.out; omega) _ (by rw [HTO.out]; rfl) ty).mono ?_
                      rintro v w10 ⟨hO9, hc9⟩
                      obtain ⟨A8, n8, rfl, _⟩ := hO9.reads
                      rw [List.length_append, hlt, List.length_singleton] at hO9 ⊢
                      have hown : ∀ i, (Value.slice A3 l3 n3).ownBlock = some i → w.heap.size ≤ i := fun i hi => Own.base_ HLE9.out i hi
                      refine ⟨A8, n8, rfl, ⟨?_, ?_, ?_⟩⟩
                      · rw [HSK.out, HMIN.out]; exact hO9
                      · refine HQ9.out.ch hc9 (fun i hi e => by have := HP.out.flt i hi; have := hown i e; omega) (fun w2 hc2 => HP.out.cfg w2 ?_)
                        exact (HC9.out.trans hc9 (fun i hlt e => by have := hown i e; omega)).trans hc2 (fun _ _ h => h)
                      · exact HC9.out.trans hc9 (fun i hlt e => by have := hown i e; omega)⟩
                    clear q9 hc9 hw9 f13 d13 z13 a13 hkl
                    go_wp2_with (at_builtin; refine wpList_append_runs rfl _ _ _ _ rfl _ _ rfl rfl (HAPP.out _) ?_; rintro v2 w10 ⟨A8, n8, rfl, hA8⟩)
                    go_roundg (N - (k + 1))
                    case measure => omega
                    case rel => exact ⟨k + 1, A8, n8, l3 + 1, by omega, by go_num, rfl, ⟨by have := HL3.out; omega⟩, ⟨hA8.out.2.1⟩, ⟨hA8.out.1⟩, ⟨hA8.out.2.2⟩⟩
      · obtain rfl : k = N := by omega
        have hltI : ¬ (k : Int) < k := by omega
        clear hsn hsl hsr hss hsw hso
        go_wp2_with fail
        go_ret
        exact ⟨_, rfl, by rw [HRW.out]; exact HQ.out, by rw [HRW.out]; exact HLE.out, HCH.out⟩
  · have HRW : Aside0 (R = (m, [])) := ⟨by rw [HRR.out]; unfold wakeF; rw [if_neg hst]⟩
    have hs' : (m.st == 0) = false := by simpa using hst
    go_enter Try.func57, Try.ntmps57
    go_wp2_with fail
    go_loopg [3, 4, 5] 1 (fun kq v3 v4 v5 w' => v4 = .int .i64 0 ∧ v3 = .slice none 0 0 ∧ w' = w)
    case atStart => exact ⟨rfl, rfl, rfl⟩
    case round =>
      obtain ⟨rfl, rfl, rfl⟩ := hrel
      by_cases h0 : 0 < N
      · have h0I : (0 : Int) < (N : Int) := by omega
        go_wp2_with fail
        go_ret
        exact ⟨_, rfl, by rw [HRW.out]; exact HP.out, by rw [HRW.out]; exact LetsP.nil _ _, Ch.refl _ _⟩
      · have h0I : ¬ (0 : Int) < (N : Int) := by omega
        go_wp2_with fail
        go_ret
        exact ⟨_, rfl, by rw [HRW.out]; exact HP.out, by rw [HRW.out]; exact LetsP.nil _ _, Ch.refl _ _⟩
end
end Go.Proofs.Ytbnhhlahbhjogaa.K
namespace Go.Proofs.Ytbnhhlahbhjogaa.K
open Go.RowKit Go.Proofs.YtbnhhlahbhjogaaW.PrintWords Go.Proofs.YtbnhhlahbhjogaaW.PrintLast Go.Proofs.YtbnhhlahbhjogaaW.PrintMore Go.Proofs.Ytbnhhlahbhjogaa.U Go.Proofs.Ytbnhhlahbhjogaa.T

section
variable {w w' : World} {gR : Nat} {F S : Nat → Prop} {c : CfgD} {h : CfH} {m : MaS} {cv : Nat → Value} {ok : Nat → Prop}
/-- A split is won: both cells are written. -/
theorem RfP.wins (p : RfP w gR F c h m cv ok) (k : Nat) (hk : k < m.sp.length) (hk6 : k < 6) (a : Int) (ha : 1 ≤ a) (l : List Int) (hl : (l.length : Int) = c.job.parts) (w8 w9 : World) (v : Value) (h8 : w8 = (w.setCell ⟨gR, 31 + k, none⟩ (.int .i64 a)).drew) (hO : Own kI 3 w9 w8.heap.size v l) (h9 : HeldN w8 w9) (wE : World) (hE : wE = w9.setCell ⟨gR, 37 + k, none⟩ v) :
    ∃ F' ok', RfP wE gR F' c h (winK m k a l) (upV cv k v) ok' ∧ (∀ i, F' i → F i ∨ w.heap.size ≤ i) ∧ Ch w wE F := by
  have hc8 : Ch w w8 (fun i => i = gR) := by rw [h8]; exact ((Ch.refl w (fun i => i = gR)).setCell _ _ rfl).trans (Ch.of_below (S := fun i => i = gR) (below_drew _)) (fun _ _ h => h)
  have hcE : Ch w wE (fun i => i = gR) := by rw [hE]; exact (hc8.trans (Ch.of_below (S := fun i => i = gR) h9) (fun _ _ h => h)).setCell _ _ rfl
  have hb8 : w8.heap[gR]? = some (.cells ((rfCells c h m cv).set (31 + k) (.int .i64 a)).toArray 75 (0, 0)) := by
    rw [h8]
    exact ((below_drew _).block gR (blk_lt' (setCell_blk p.blk _))).trans (setCell_blk p.blk _)
  have hb9 := (h9.block gR (blk_lt' hb8)).trans hb8
  have hbE : wE.heap[gR]? = some (.cells (rfCells c h (winK m k a l) (upV cv k v)).toArray 75 (0, 0)) := by
    rw [hE, ← rf_won c h m cv k hk6 hk a l v]
    exact setCell_blk hb9 v
  have hszE : wE.heap.size = w9.heap.size := by rw [hE]; simp [World.setCell]
  have hgR := p.flt _ p.fR
  have hs8 : w8.heap.size = w.heap.size := by rw [h8]; show (w.setCell _ _).heap.size = _; simp [World.setCell]
  have h9s : w8.heap.size ≤ w9.heap.size := h9.size
  have hcF : Ch w wE F := hcE.mono (fun i hi => by rw [hi]; exact p.fR)
  refine ⟨fun i => F i ∨ (w.heap.size ≤ i ∧ i < wE.heap.size), fun i => ok i ∨ (w.heap.size ≤ i ∧ i < wE.heap.size), ⟨hbE, fun w2 hc2 => p.cfg w2 (hcF.trans hc2 (fun i hlt hi => by
      rcases hi with hi | hi
      · exact hi
      · omega)), fun j hj hw => ?_, fun j hw => ?_, fun i hi => ?_, .inl p.fR, fun i hi => ?_, ?_, p.rd, p.may⟩, fun i hi => ?_, hcF⟩
  · have hlen : (winK m k a l).sp.length = m.sp.length := List.length_set ..
    have e : S_ (winK m k a l) j = if j = k ∧ k < m.sp.length then { m.sp.getD k zeroS with won := true, att := a, counts := l } else S_ m j := getD_set _ _ _ _
    rw [e] at hw ⊢
    by_cases hjk : j = k
    · rw [if_pos ⟨hjk, hk⟩]
      show Kd.R kI 3 wE 0 _ (upV cv k v j) l ∧ (l.length : Int) = _
      have hv : upV cv k v j = v := by unfold upV; rw [if_pos hjk]
      rw [hv]
      have hOE : Own kI 3 wE w8.heap.size v l := by
        rw [hE]
        exact hO.ch (flat_int .i64) ((Ch.refl w9 (fun i => i = gR)).setCell ⟨gR, 37 + k, none⟩ v rfl) (fun i hi e => by have := Own.base_ hO i hi; omega)
      exact ⟨Kd.R_mono (Kd.R_lower (Kd.R_bound hOE) (Nat.zero_le _)) (fun i hi => .inr ⟨by have := hi.2.1; omega, hi.2.2.1⟩), hl⟩
    · rw [if_neg (fun hh => hjk hh.1)] at hw ⊢
      have hv : upV cv k v j = cv j := by unfold upV; rw [if_neg hjk]
      rw [hv]
      obtain ⟨q1, q2⟩ := p.cnt j (by rw [← hlen]; exact hj) hw
      exact ⟨Kd.R_mono (Kd.R_step q1 (fun i hi hlt => hcE.block i hlt (p.okF i hi).2)) (fun i hi => .inl hi), q2⟩
  · have e : S_ (winK m k a l) j = if j = k ∧ k < m.sp.length then { m.sp.getD k zeroS with won := true, att := a, counts := l } else S_ m j := getD_set _ _ _ _
    rw [e] at hw ⊢
    by_cases hjk : j = k
    · rw [if_pos ⟨hjk, hk⟩]; exact ha
    · rw [if_neg (fun hh => hjk hh.1)] at hw ⊢
      exact p.att j hw
  · rcases hi with hi | hi
    · exact ⟨.inl (p.okF i hi).1, (p.okF i hi).2⟩
    · exact ⟨.inr hi, by omega⟩
  · rcases hi with hi | hi
    · have := p.flt i hi; omega
    · exact hi.2
  · show (m.sp.set k _).length = _
    rw [List.length_set]; exact p.len
  · rcases hi with hi | hi
    · exact .inl hi
    · exact .inr hi.1
/-- What the document's master answers of records. -/
def RfPost (w : World) (gR : Nat) (F : Nat → Prop) (c : CfgD) (h : CfH) (m' : MaS) (v : Value) (rs : List RecD) (w' : World) : Prop := ∃ F' A n, v = .slice A rs.length n ∧ Kd.C kRec w' A rs.length rs ∧ RfR w' gR F' c h m' ∧ (∀ i, F' i → F i ∨ w.heap.size ≤ i) ∧ Ch w w' F
theorem RfPost.same (p : RfP w gR F c h m cv ok) (hb : Below w.heap.size w w') : RfPost w gR F c h m (.slice none 0 0) [] w' :=
  ⟨F, none, 0, rfl, C_zero _ _, ⟨cv, ok, p.below hb⟩, fun _ h => .inl h, Ch.of_below hb F⟩
def doneR (m : MaS) (x : MsgD) (o : Option Nat) : MaS × List RecD := match o with | none => (m, []) | some k => (winK m k x.a x.set, [⟨1, 0, x.s, x.a, 0, x.set, []⟩])
set_option maxHeartbeats 12800000 in
theorem rfDone (p : RfP w gR F c h m cv ok) (x : MsgD) (A1 A2 : Option Addr) (c1 c2 : Nat) (hx : ∀ w', Ch w w' F → MsgC w' x A1 A2 c1 c2) :
    Calls Try.prog 79 #[.pointer (some ⟨gR, 0, none⟩), msgV x (.slice A1 x.set.length c1) (.slice A2 x.prs.length c2)] w fun e w' => ∃ v, e = .returned v ∧ RfPost w gR F c h (doneR m x (doneK c m x)).1 v (doneR m x (doneK c m x)).2 w' := by
  obtain ⟨ls, hls⟩ : ∃ ls, ls = x.set.length := ⟨_, rfl⟩
  obtain ⟨lp, hlp⟩ : ∃ lp, lp = x.prs.length := ⟨_, rfl⟩
  obtain ⟨g, hg⟩ : ∃ g, g = w.heap.size := ⟨_, rfl⟩
  obtain ⟨wA, hwA⟩ : ∃ wA, wA = w.alloc (.cells #[.int .i64 x.k, .int .i64 x.s, .int .i64 x.a, .int .i64 x.p, .int .i64 x.q, .int .i64 x.n, .int .i64 x.e, .int .i64 x.r, .slice A1 ls c1, .slice A2 lp c2] 45) := ⟨_, rfl⟩
  have hbA : Below w.heap.size w wA := by rw [hwA]; exact (Below.refl _ _).alloc (Nat.le_refl _) _
  have hgA : wA.heap[g]? = some (.cells ([.int .i64 x.k, .int .i64 x.s, .int .i64 x.a, .int .i64 x.p, .int .i64 x.q, .int .i64 x.n, .int .i64 x.e, .int .i64 x.r, .slice A1 ls c1, .slice A2 lp c2] : List Value).toArray 45 (0, 0)) := by rw [hwA, hg]; exact alloc_at w _
  have q := p.below hbA
  have hxA := hx wA (Ch.of_below hbA F)
  have hmx := Kd.C_max hxA.s
  have HFAR0 : Aside0 (∀ w', Ch wA w' F → Kd.C kI w' A1 x.set.length x.set) := ⟨fun w' hc => (hx w' ((Ch.of_below hbA F).trans hc (fun _ _ h => h))).s⟩
  have hgne : g ≠ gR := by have := p.flt _ p.fR; omega
  obtain ⟨D, hD⟩ : ∃ D, D = doneK c m x := ⟨_, rfl⟩
  have HNO : Aside0 (∀ w', doneK c m x = none → HeldN wA w' → RfPost w gR F c h (doneR m x D).1 (.slice none 0 0) (doneR m x D).2 w') := ⟨fun w' h1 h2 => by
    rw [hD, h1]
    exact RfPost.same p (below_then hbA hbA.size h2)⟩
  obtain ⟨hb, hhb⟩ : ∃ b, b = decide (0 ≤ x.s ∧ x.s < (m.sp.length : Int)) := ⟨_, rfl⟩
  have hum := Try.underlying45
  have hur := Try.underlying90
  have HQ := Aside0.mk q
  have HX := Aside0.mk hxA
  have HLS := Aside0.mk hls
  have HB := Aside0.mk hbA
  have HWA := Aside0.mk hwA
  have HG := Aside0.mk hg
  have HGA := Aside0.mk hgA
  have HGR := Aside0.mk hgne
  have HD := Aside0.mk hD
  have HFLT := Aside0.mk p.flt
  rw [← hD]
  rw [← hls] at hmx
  rw [← hls, ← hlp]
  unfold msgV
  clear p q hx hxA hls hlp hwA hg hbA hgA hD hgne
  go_enter Try.func79, Try.ntmps79
  go_upto_region 1 with (fail)
  rw [show w.alloc (.cells #[.int .i64 x.k, .int .i64 x.s, .int .i64 x.a, .int .i64 x.p, .int .i64 x.q, .int .i64 x.n, .int .i64 x.e, .int .i64 x.r, .slice A1 ls c1, .slice A2 lp c2] 45) = wA from HWA.out.symm, ← HG.out]
  by_cases h0 : 0 ≤ x.s ∧ x.s < (m.sp.length : Int)
  case' neg =>
    have HHB : Aside0 (false = decide (0 ≤ x.s ∧ x.s < (m.sp.length : Int))) := ⟨(decide_eq_false h0).symm⟩
    have HNB : Aside0 (openN m x.s = none) := ⟨by unfold openN; rw [if_neg (fun hh => h0 ⟨hh.1, hh.2.1⟩)]⟩
    clear h0 hhb
    have HHAS : Aside0 (∀ w', HeldN wA w' → Calls Try.prog 55 #[.pointer (some ⟨gR, 0, none⟩), .int .i64 x.s] w' fun e w'' => e = .returned (.bool false) ∧ w'' = w') := ⟨fun w' hw => rfHas (HQ.out.below hw) _ false HHB.out⟩
    have y1 : wA.cell? ⟨g, 1, none⟩ = some (.int .i64 x.s) := cell_of_blk HGA.out
    have y2 : wA.cell? ⟨g, 2, none⟩ = some (.int .i64 x.a) := cell_of_blk HGA.out
    have y8 : wA.cell? ⟨g, 8, none⟩ = some (.slice A1 ls c1) := cell_of_blk HGA.out
    have f10 := HQ.out.c_tr
    have f1 := HQ.out.c_parts
    go_upto_region 1 with (fail)
    go_quiet ((go_at_call 55; exact (HHAS.out _ (pw_below_drewN (Below.refl _ _) _)).mono (fun e w' h => ⟨h.1, _, h.2⟩)))
    obtain ⟨wq, hwq⟩ : ∃ wq, wq = wA.drewN nq := ⟨_, rfl⟩
    have HHQ : Aside0 (HeldN wA wq) := ⟨by rw [hwq]; exact pw_below_drewN (Below.refl wA.heap.size wA) _⟩
    rw [← hwq]
    clear hwq HHAS y1 y2 y8 f10 f1
    go_wp2_with fail
    go_ret
    exact ⟨_, rfl, HNO.out _ (doneK_none (.inr (.inr (.inr (.inr HNB.out))))) HHQ.out⟩
  have HHB : Aside0 (true = decide (0 ≤ x.s ∧ x.s < (m.sp.length : Int))) := ⟨(decide_eq_true h0).symm⟩
  obtain ⟨k, hk⟩ : ∃ k : Nat, x.s = k := ⟨x.s.toNat, by omega⟩
  have hkl : k < m.sp.length := by omega
  have hk6 : k < 6 := by have := HQ.out.len; have := HQ.out.n6; omega
  have HKL := Aside0.mk hkl
  have HK6 := Aside0.mk hk6
  have HKE := Aside0.mk hk
  have HHB := hk ▸ HHB
  have HGA : Aside0 (wA.heap[g]? = some (.cells ([.int .i64 x.k, .int .i64 (k : Int), .int .i64 x.a, .int .i64 x.p, .int .i64 x.q, .int .i64 x.n, .int .i64 x.e, .int .i64 x.r, .slice A1 ls c1, .slice A2 lp c2] : List Value).toArray 45 (0, 0))) := ⟨by have := HGA.out; rw [hk] at this; exact this⟩
  have hkI : (k : Int) < 6 := by omega
  have hk0 : (0 : Int) ≤ (k : Int) := by omega
  obtain ⟨z, hz⟩ : ∃ z, z = wonI (S_ m k) := ⟨_, rfl⟩
  have hwp := wonI_pos HQ.out k
  rw [← hz] at hwp
  have HZ := Aside0.mk hz
  have a31 := add13 gR 31 k
  clear hkl hk6 h0 hhb hz hk
  by_cases hw : (S_ m k).won = true
  · have hz0 : 0 < z := hwp.2 hw
    have hz1 := decide_eq_true hz0
    have HNB : Aside0 (openN m x.s = none) := ⟨by unfold openN; rw [HKE.out, if_neg (fun hh => by have := hh.2.2; rw [Int.toNat_natCast] at this; rw [show (m.sp.getD k zeroS).won = true from hw] at this; cases this)]⟩
    clear hw hwp
    have HHAS : Aside0 (∀ w', HeldN wA w' → Calls Try.prog 55 #[.pointer (some ⟨gR, 0, none⟩), .int .i64 (k : Int)] w' fun e w'' => e = .returned (.bool true) ∧ w'' = w') := ⟨fun w' hw => rfHas (HQ.out.below hw) _ true HHB.out⟩
    have y1 : wA.cell? ⟨g, 1, none⟩ = some (.int .i64 (k : Int)) := cell_of_blk HGA.out
    have y2 : wA.cell? ⟨g, 2, none⟩ = some (.int .i64 x.a) := cell_of_blk HGA.out
    have y8 : wA.cell? ⟨g, 8, none⟩ = some (.slice A1 ls c1) := cell_of_blk HGA.out
    have f10 := HQ.out.c_tr
    have f1 := HQ.out.c_parts
    have f31 := HQ.out.c_won k HK6.out
    rw [← HZ.out] at f31
    go_upto_region 1 with (fail)
    go_quiet ((go_at_call 55; exact (HHAS.out _ (pw_below_drewN (Below.refl _ _) _)).mono (fun e w' h => ⟨h.1, _, h.2⟩)))
    obtain ⟨wq, hwq⟩ : ∃ wq, wq = wA.drewN nq := ⟨_, rfl⟩
    have HHQ : Aside0 (HeldN wA wq) := ⟨by rw [hwq]; exact pw_below_drewN (Below.refl wA.heap.size wA) _⟩
    rw [← hwq]
    clear hwq HHAS y1 y2 y8 f10 f1 f31
    go_wp2_with fail
    go_ret
    exact ⟨_, rfl, HNO.out _ (doneK_none (.inr (.inr (.inr (.inr HNB.out))))) HHQ.out⟩
  · have hz0 : ¬ 0 < z := fun hh => hw (hwp.1 hh)
    have hz1 := decide_eq_false hz0
    have HOP : Aside0 (openN m x.s = some k) := ⟨by unfold openN; rw [HKE.out, if_pos ⟨by omega, by have := HKL.out; omega, by rw [Int.toNat_natCast]; simpa [S_] using hw⟩, Int.toNat_natCast]⟩
    clear hw hwp
    by_cases h1 : x.a < 1
    · have h1' := decide_eq_true h1
      have HHAS : Aside0 (∀ w', HeldN wA w' → Calls Try.prog 55 #[.pointer (some ⟨gR, 0, none⟩), .int .i64 (k : Int)] w' fun e w'' => e = .returned (.bool true) ∧ w'' = w') := ⟨fun w' hw => rfHas (HQ.out.below hw) _ true HHB.out⟩
      have y1 : wA.cell? ⟨g, 1, none⟩ = some (.int .i64 (k : Int)) := cell_of_blk HGA.out
      have y2 : wA.cell? ⟨g, 2, none⟩ = some (.int .i64 x.a) := cell_of_blk HGA.out
      have y8 : wA.cell? ⟨g, 8, none⟩ = some (.slice A1 ls c1) := cell_of_blk HGA.out
      have f10 := HQ.out.c_tr
      have f1 := HQ.out.c_parts
      have f31 := HQ.out.c_won k HK6.out
      rw [← HZ.out] at f31
      go_upto_region 1 with (fail)
      go_quiet ((go_at_call 55; exact (HHAS.out _ (pw_below_drewN (Below.refl _ _) _)).mono (fun e w' h => ⟨h.1, _, h.2⟩)))
      obtain ⟨wq, hwq⟩ : ∃ wq, wq = wA.drewN nq := ⟨_, rfl⟩
      have HHQ : Aside0 (HeldN wA wq) := ⟨by rw [hwq]; exact pw_below_drewN (Below.refl wA.heap.size wA) _⟩
      rw [← hwq]
      clear hwq HHAS y1 y2 y8 f10 f1 f31
      go_wp2_with fail
      go_ret
      exact ⟨_, rfl, HNO.out _ (doneK_none (.inr (.inl h1))) HHQ.out⟩
    · have h1' := decide_eq_false h1
      by_cases h2 : c.tries < x.a
      · have h2' := decide_eq_true h2
        have HHAS : Aside0 (∀ w', HeldN wA w' → Calls Try.prog 55 #[.pointer (some ⟨gR, 0, none⟩), .int .i64 (k : Int)] w' fun e w'' => e = .returned (.bool true) ∧ w'' = w') := ⟨fun w' hw => rfHas (HQ.out.below hw) _ true HHB.out⟩
        have y1 : wA.cell? ⟨g, 1, none⟩ = some (.int .i64 (k : Int)) := cell_of_blk HGA.out
        have y2 : wA.cell? ⟨g, 2, none⟩ = some (.int .i64 x.a) := cell_of_blk HGA.out
        have y8 : wA.cell? ⟨g, 8, none⟩ = some (.slice A1 ls c1) := cell_of_blk HGA.out
        have f10 := HQ.out.c_tr
        have f1 := HQ.out.c_parts
        have f31 := HQ.out.c_won k HK6.out
        rw [← HZ.out] at f31
        go_upto_region 1 with (fail)
        go_quiet ((go_at_call 55; exact (HHAS.out _ (pw_below_drewN (Below.refl _ _) _)).mono (fun e w' h => ⟨h.1, _, h.2⟩)))
        obtain ⟨wq, hwq⟩ : ∃ wq, wq = wA.drewN nq := ⟨_, rfl⟩
        have HHQ : Aside0 (HeldN wA wq) := ⟨by rw [hwq]; exact pw_below_drewN (Below.refl wA.heap.size wA) _⟩
        rw [← hwq]
        clear hwq HHAS y1 y2 y8 f10 f1 f31
        go_wp2_with fail
        go_ret
        exact ⟨_, rfl, HNO.out _ (doneK_none (.inr (.inr (.inl h2)))) HHQ.out⟩
      · have h2' := decide_eq_false h2
        by_cases h3 : (ls : Int) = c.job.parts
        case' neg =>
          have h3' : ((ls : Int) != c.job.parts) = true := bne_iff_ne.2 h3
          have HNL : Aside0 ((x.set.length : Int) ≠ c.job.parts) := ⟨by rw [← HLS.out]; exact h3⟩
          have HHAS : Aside0 (∀ w', HeldN wA w' → Calls Try.prog 55 #[.pointer (some ⟨gR, 0, none⟩), .int .i64 (k : Int)] w' fun e w'' => e = .returned (.bool true) ∧ w'' = w') := ⟨fun w' hw => rfHas (HQ.out.below hw) _ true HHB.out⟩
          have y1 : wA.cell? ⟨g, 1, none⟩ = some (.int .i64 (k : Int)) := cell_of_blk HGA.out
          have y2 : wA.cell? ⟨g, 2, none⟩ = some (.int .i64 x.a) := cell_of_blk HGA.out
          have y8 : wA.cell? ⟨g, 8, none⟩ = some (.slice A1 ls c1) := cell_of_blk HGA.out
          have f10 := HQ.out.c_tr
          have f1 := HQ.out.c_parts
          have f31 := HQ.out.c_won k HK6.out
          rw [← HZ.out] at f31
          go_upto_region 1 with (fail)
          go_quiet ((go_at_call 55; exact (HHAS.out _ (pw_below_drewN (Below.refl _ _) _)).mono (fun e w' h => ⟨h.1, _, h.2⟩)))
          obtain ⟨wq, hwq⟩ : ∃ wq, wq = wA.drewN nq := ⟨_, rfl⟩
          have HHQ : Aside0 (HeldN wA wq) := ⟨by rw [hwq]; exact pw_below_drewN (Below.refl wA.heap.size wA) _⟩
          rw [← hwq]
          clear hwq HHAS y1 y2 y8 f10 f1 f31
          go_wp2_with fail
          go_ret
          exact ⟨_, rfl, HNO.out _ (doneK_none (.inr (.inr (.inr (.inl HNL.out))))) HHQ.out⟩
        have h3' : ((ls : Int) != c.job.parts) = false := by rw [h3]; simp
        have HPL : Aside0 ((x.set.length : Int) = c.job.parts) := ⟨by rw [← HLS.out]; exact h3⟩
        have HP1 : Aside0 (ls ≤ 100000000) := ⟨by have := HQ.out.may.job.parts.2; omega⟩
        have HA1 : Aside0 (1 ≤ x.a) := ⟨by omega⟩
        have HA2 : Aside0 (¬ x.a < 1 ∧ ¬ c.tries < x.a) := ⟨⟨h1, h2⟩⟩
        have HHAS : Aside0 (∀ w', HeldN wA w' → Calls Try.prog 55 #[.pointer (some ⟨gR, 0, none⟩), .int .i64 (k : Int)] w' fun e w'' => e = .returned (.bool true) ∧ w'' = w') := ⟨fun w' hw => rfHas (HQ.out.below hw) _ true HHB.out⟩
        have y1 : wA.cell? ⟨g, 1, none⟩ = some (.int .i64 (k : Int)) := cell_of_blk HGA.out
        have y2 : wA.cell? ⟨g, 2, none⟩ = some (.int .i64 x.a) := cell_of_blk HGA.out
        have y8 : wA.cell? ⟨g, 8, none⟩ = some (.slice A1 ls c1) := cell_of_blk HGA.out
        have f10 := HQ.out.c_tr
        have f1 := HQ.out.c_parts
        have f31 := HQ.out.c_won k HK6.out
        rw [← HZ.out] at f31
        go_upto_region 1 with (fail)
        go_quiet ((go_at_call 55; exact (HHAS.out _ (pw_below_drewN (Below.refl _ _) _)).mono (fun e w' h => ⟨h.1, _, h.2⟩)))
        obtain ⟨wq, hwq⟩ : ∃ wq, wq = wA.drewN nq := ⟨_, rfl⟩
        have HHQ : Aside0 (HeldN wA wq) := ⟨by rw [hwq]; exact pw_below_drewN (Below.refl wA.heap.size wA) _⟩
        rw [← hwq]
        clear hwq HHAS y1 y2 y8 f10 f1 f31
        have HQA := Aside0.mk (HQ.out.below HHQ.out)
        clear h1 h2 h3 h1' h2' h3' hz0 hz1 a31
        have HGQ : Aside0 (∀ w', HeldN wq w' → w'.heap[g]? = some (.cells ([.int .i64 x.k, .int .i64 (k : Int), .int .i64 x.a, .int .i64 x.p, .int .i64 x.q, .int .i64 x.n, .int .i64 x.e, .int .i64 x.r, .slice A1 ls c1, .slice A2 lp c2] : List Value).toArray 45 (0, 0))) := ⟨fun w' hw => ((HHQ.out.then_ hw).block g (blk_lt' HGA.out)).trans HGA.out⟩
        have c8 : wq.cell? ⟨g, 8, none⟩ = some (.slice A1 ls c1) := cell_of_blk (HGQ.out wq (Below.refl _ _))
        have HXQ : Aside0 (Kd.C kI wq A1 x.set.length x.set) := ⟨Kd.C_below HX.out.s HHQ.out⟩
        go_wp2_with fail
        go_loopg [5] ls (fun kq v5 w' => ∃ i : Nat, i + kq = ls ∧ v5 = .int .i64 i ∧ Aside0 (∀ j (hj : j < x.set.length), j < i → ¬ (x.set[j] < 0 ∨ 40 < x.set[j])) ∧ w' = wq)
        case atStart => exact ⟨0, by omega, rfl, ⟨fun j hj h => by omega⟩, rfl⟩
        case round =>
          obtain ⟨i, hi, rfl, HA, rfl⟩ := hrel
          by_cases hlt : i < ls
          · have hlt' : i < x.set.length := by rw [← HLS.out]; exact hlt
            have hltI : (i : Int) < ls := by omega
            have hi0 : (0 : Int) ≤ (i : Int) := by omega
            obtain ⟨ad, rfl, hx0⟩ := at_intz HXQ.out i hlt'
            obtain ⟨y, hy⟩ : ∃ y, y = x.set[i] := ⟨_, rfl⟩
            rw [← hy] at hx0
            have HY := Aside0.mk hy
            have HLT := Aside0.mk hlt'
            clear hy
            have HBAD : Aside0 (y < 0 ∨ 40 < y → doneK c m x = none) := ⟨fun hh => doneK_none (.inl ⟨_, List.getElem_mem HLT.out, by rw [← HY.out]; exact hh⟩)⟩
            by_cases hy0 : y < 0
            · have hy0' := decide_eq_true hy0
              go_wp2_with fail
              go_ret
              exact ⟨_, rfl, HNO.out _ (HBAD.out (.inl hy0)) HHQ.out⟩
            · have hy0' := decide_eq_false hy0
              by_cases hy1 : 40 < y
              · have hy1' := decide_eq_true hy1
                go_wp2_with fail
                go_ret
                exact ⟨_, rfl, HNO.out _ (HBAD.out (.inr hy1)) HHQ.out⟩
              · have hy1' := decide_eq_false hy1
                go_wp2_with fail
                go_roundg (ls - (i + 1))
                case measure => omega
                case rel => exact ⟨i + 1, by omega, by go_num, ⟨fun j hj h => by
                    rcases Nat.lt_or_ge j i with h1 | h1
                    · exact HA.out j hj h1
                    · obtain rfl : j = i := by omega
                      rw [← HY.out]
                      omega⟩, rfl⟩
          · obtain rfl : ls = i := by omega
            have hltI : ¬ (ls : Int) < ls := by omega
            have HDS : Aside0 (doneK c m x = some k) := ⟨doneK_some (fun ⟨y, hy, hh⟩ => by
              obtain ⟨j, hj, rfl⟩ := List.getElem_of_mem hy
              exact HA.out j hj (by rw [HLS.out]; exact hj) hh) (by have := HA2.out.1; omega) (by have := HA2.out.2; omega) HPL.out HOP.out⟩
            have HBX := Aside0.mk (HGQ.out wr (Below.refl _ _))
            have HQ := HQA
            have HFAR : Aside0 (∀ w', Ch wr w' F → Kd.C kI w' A1 x.set.length x.set) := ⟨fun w' hc => HFAR0.out w' ((Ch.of_below HHQ.out F).trans hc (fun _ _ h => h))⟩
            go_wp2_with fail
            have b1 : wr.cell? ⟨g, 1, none⟩ = some (.int .i64 (k : Int)) := cell_of_blk HBX.out
            have b2 : wr.cell? ⟨g, 2, none⟩ = some (.int .i64 x.a) := cell_of_blk HBX.out
            have d1 : wr.drew.cell? ⟨g, 1, none⟩ = some (.int .i64 (k : Int)) := b1
            have d2 : wr.drew.cell? ⟨g, 2, none⟩ = some (.int .i64 x.a) := b2
            have f31 := HQ.out.c_won k HK6.out
            have z31 := HQ.out.fr (31 + k)
            have a31 := add13 gR 31 k
            go_upto_region 8 with (fail)
            go_region
            all_goals
              obtain ⟨w8, hw8⟩ : ∃ w', w' = (wr.setCell ⟨gR, 31 + k, none⟩ (.int .i64 x.a)).drew := ⟨_, rfl⟩
              rw [← hw8]
              have hc8 : Ch wr w8 (fun i => i = gR) := by rw [hw8]; exact ((Ch.refl wr (fun i => i = gR)).setCell _ _ rfl).trans (Ch.of_below (S := fun i => i = gR) (below_drew _)) (fun _ _ h => h)
              have HB8 := Aside0.mk (hc8.blk HBX.out HGR.out)
              have HW8 := Aside0.mk hw8
              have HL8 := Aside0.mk (HFAR.out w8 (hc8.mono (fun i hi => by rw [hi]; exact HQ.out.fR)))
              have HG8 : Aside0 (w8.heap[gR]? = some (.cells ((rfCells c h (m) cv).set (31 + k) (.int .i64 x.a)).toArray 75 (0, 0))) := ⟨by
                rw [hw8]
                exact ((below_drew _).block gR (blk_lt' (setCell_blk HQ.out.blk _))).trans (setCell_blk HQ.out.blk _)⟩
              clear b1 b2 d1 d2 f31 z31 a31 hw8 hc8
              have h37 : ∀ u, ((rfCells c h (m) cv).set (31 + k) u)[37 + k]? = some (cv k) := fun u => by
                rw [List.getElem?_set_ne (by omega)]
                have := HQ.out.c_cnt k HK6.out
                rw [cell_of_blk HQ.out.blk] at this
                exact this
              have H37 := Aside0.mk h37
              clear h37
              have HK0 : Aside0 (∀ w', HeldN w8 w' → (w'.cell? ⟨g, 1, none⟩ = some (.int .i64 (k : Int)) ∧ w'.cell? ⟨g, 8, none⟩ = some (.slice A1 ls c1))) := ⟨fun w' hw => by
                have hq := (hw.block g (blk_lt' HB8.out)).trans HB8.out
                exact ⟨cell_of_blk hq, cell_of_blk hq⟩⟩
              have hh0 : HeldN w8 w8 := Below.refl _ _
              have hhd : ∀ w', HeldN w8 w' → HeldN w8 w'.drew := fun w' h => h.then_ (below_drew w')
              have HAPP : Aside0 (∀ w', HeldN w8 w' → ∀ ty, Runs Try.prog (Builtin.append_ #[24, 24] ty #[.slice none 0 0, .slice A1 ls c1]) w' fun v w9 => ∃ A9 n9, v = .slice A9 ls n9 ∧ (w9.cell? ⟨g, 1, none⟩ = some (.int .i64 (k : Int)) ∧ w9.cell? ⟨g, 8, none⟩ = some (.slice A1 ls c1)) ∧ w9.cell? ⟨gR, 37 + k, none⟩ = some (cv k) ∧ w9.frozen? ⟨gR, 37 + k, none⟩ = false ∧ (∀ u, ((w9.setCell ⟨gR, 37 + k, none⟩ u).cell? ⟨g, 1, none⟩ = some (.int .i64 (k : Int)) ∧ (w9.setCell ⟨gR, 37 + k, none⟩ u).cell? ⟨g, 8, none⟩ = some (.slice A1 ls c1))) ∧ Aside0 (Own kI 3 w9 w8.heap.size (.slice A9 ls n9) x.set ∧ HeldN w8 w9)) := ⟨fun w' hw ty => by
                refine (append_own_runs Try.prog (flat_int .i64) 24 ty _ 8 Try.underlying24 info_int rfl (by decide) (Own.nil kI 3 w' w8.heap.size) A1 ls c1 HLS.out (Kd.C_below HL8.out hw) hw.size (by have := HP1.out; have := HLS.out; rw [List.length_nil]; omega) (by have := HP1.out; have := HLS.out; rw [List.length_nil]; omega)).mono ?_
                rintro v w9 ⟨hO, hg9⟩
                rw [List.nil_append] at hO
                have h9 : HeldN w8 w9 := hw.then_ ((Below.refl w'.heap.size w').grown hg9 (Nat.le_refl _) (fun i hi => by cases hi))
                obtain ⟨A9, n9, rfl, _, _⟩ := hO.reads
                rw [← HLS.out] at hO ⊢
                have hq := (h9.block g (blk_lt' HB8.out)).trans HB8.out
                have hr := (h9.block gR (blk_lt' HG8.out)).trans HG8.out
                refine ⟨A9, n9, rfl, ⟨cell_of_blk hq, cell_of_blk hq⟩, ?_, frozen_of_blk hr, fun u => ?_, ⟨hO, h9⟩⟩
                · rw [cell_of_blk hr]; exact H37.out _
                · have hq2 := ((Ch.refl w9 (fun i => i = gR)).setCell ⟨gR, 37 + k, none⟩ u rfl).blk hq HGR.out
                  exact ⟨cell_of_blk hq2, cell_of_blk hq2⟩⟩
              have a37 := add13 gR 37 k
              obtain ⟨k1, k2⟩ := HK0.out w8 hh0
              go_upto_region 9 with (fail)
              go_region_held_law (fun w' => (w'.cell? ⟨g, 1, none⟩ = some (.int .i64 (k : Int)) ∧ w'.cell? ⟨g, 8, none⟩ = some (.slice A1 ls c1))) (first | assumption | exact HK0.out _ (by first | assumption | exact hhd _ hh0) | exact hSS _)
                (first | (refine step_app_run rfl (.const (.slice none 0 0)) (.tmp 81) 24 rfl (.slice none 0 0) (.slice A1 ls c1) (by simp [Act.eval, Act.put]) (by simp [Act.eval, Act.put]) (HAPP.out _ (by first | assumption | exact hhd _ hh0)) ?_; rintro _ w9 ⟨A9, n9, rfl, hS9, f37, z37, hSS, hALL⟩))
              all_goals
                obtain ⟨hO9, hh9⟩ := hALL.out
                have hwE := HQ.out.wins k HKL.out HK6.out x.a HA1.out x.set HPL.out w8 w9 (.slice A9 ls n9) HW8.out hO9 hh9 _ rfl
                obtain ⟨F2, ok2, hp, hF2, hcE⟩ := hwE
                obtain ⟨wE, hwE⟩ : ∃ wE, wE = w9.setCell ⟨gR, 37 + k, none⟩ (.slice A9 ls n9) := ⟨_, rfl⟩
                rw [← hwE] at hp hcE ⊢
                have hBE := hcE.blk HBX.out (fun hi => by have := HFLT.out g hi; have := HG.out; omega)
                have e1 : wE.cell? ⟨g, 1, none⟩ = some (.int .i64 (k : Int)) := cell_of_blk hBE
                have e2 : wE.cell? ⟨g, 2, none⟩ = some (.int .i64 x.a) := cell_of_blk hBE
                have e3 : wE.cell? ⟨gR, 37 + k, none⟩ = some (.slice A9 ls n9) := by have := hp.c_cnt k HK6.out; unfold upV at this; rw [if_pos rfl] at this; exact this
                have r1 : wE.drew.cell? ⟨g, 1, none⟩ = some (.int .i64 (k : Int)) := e1
                have r2 : wE.drew.cell? ⟨g, 2, none⟩ = some (.int .i64 x.a) := e2
                have r3 : wE.drew.cell? ⟨gR, 37 + k, none⟩ = some (.slice A9 ls n9) := e3
                clear hwE
                have HPE := Aside0.mk hp
                have HCE := Aside0.mk (And.intro hF2 hcE)
                have HEN : Aside0 (∀ wZ gz, HeldN wE wZ → wZ.heap[gz]? = some (.cells ([.int .i64 1, .int .i64 0, .int .i64 (k : Int), .int .i64 x.a, .int .i64 0, .slice A9 ls n9, .slice none 0 0] : List Value).toArray 90 (0, 0)) → RfPost w gR F c h (doneR m x D).1 (.slice (some ⟨gz, 0, none⟩) 1 1) (doneR m x D).2 wZ) := ⟨fun wZ gz hh hgz => by
                  rw [HD.out, HDS.out]
                  have q := HPE.out.below hh
                  have e : S_ (winK m k x.a x.set) k = { m.sp.getD k zeroS with won := true, att := x.a, counts := x.set } := getD_set_self _ _ HKL.out _
                  have hcn := (q.cnt k (by show k < (m.sp.set k _).length; rw [List.length_set]; exact HKL.out) (by rw [e])).1
                  rw [e] at hcn
                  unfold upV at hcn
                  rw [if_pos rfl] at hcn
                  obtain ⟨A', n', e', hle, hC⟩ := Kd.R_reads hcn
                  injection e' with e1 e2 e3
                  subst e1
                  subst e3
                  refine ⟨F2, some ⟨gz, 0, none⟩, 1, rfl, ?_, ⟨_, _, q⟩, fun i hi => ?_, ?_⟩
                  · refine C_one hgz ?_
                    have hk := kRec_mk (x := ⟨1, 0, x.s, x.a, 0, x.set, []⟩) (A1 := A9) (A2 := none) (c1 := n9) (c2 := 0) (w := wZ) ⟨hC, C_zero _ _, hle, Nat.le_refl _⟩
                    have e5 : rawR ⟨1, 0, x.s, x.a, 0, x.set, []⟩ (.slice A9 x.set.length n9) (.slice none 0 0) = [.int .i64 1, .int .i64 0, .int .i64 (k : Int), .int .i64 x.a, .int .i64 0, .slice A9 ls n9, .slice none 0 0] := by rw [HLS.out, ← HKE.out]; rfl
                    rw [← e5]
                    exact hk
                  · rcases HCE.out.1 i hi with h1 | h1
                    · exact .inl h1
                    · exact .inr (Nat.le_trans (below_then HB.out HB.out.size HHQ.out).size h1)
                  · exact ((Ch.of_below (S := F) (below_then HB.out HB.out.size HHQ.out)).trans HCE.out.2 (fun _ _ h => h)).trans (Ch.of_below (S := F) hh) (fun _ _ h => h)⟩
                clear hp hF2 hcE hBE hO9 hh9 hS9 hSS hALL f37 z37 HAPP HK0 hh0 hhd k1 k2
                go_upto_region 10 with (fail)
                go_region
                all_goals
                  go_wp2_with fail
                  go_ret
                  first
                    | exact ⟨_, rfl, HEN.out _ _ (HeldN.then_ (w := wE) ((Below.refl _ _).alloc (Nat.le_refl _) _) (below_drew _)) (alloc_at wE _)⟩
                    | exact ⟨_, rfl, HEN.out _ _ (HeldN.then_ (w := wE) (below_drew _) ((Below.refl _ _).alloc (Nat.le_refl _) _)) (alloc_at wE.drew _)⟩
end
end Go.Proofs.Ytbnhhlahbhjogaa.K
