/- Which records may be: the program's answer. -/
import Derived.Test.YtkgbcoijkmlmnaaR2
set_option linter.unusedVariables false
set_option linter.unusedSimpArgs false
namespace Go.Proofs.Ytkgbcoijkmlmnaa.K
open Go.RowKit Go.Proofs.YtkgbcoijkmlmnaaW.PrintWords Go.Proofs.YtkgbcoijkmlmnaaW.PrintLast Go.Proofs.YtkgbcoijkmlmnaaW.PrintMore Go.Proofs.Ytkgbcoijkmlmnaa.U Go.Proofs.Ytkgbcoijkmlmnaa.T

def MayP (k p s a q n m : Int) (P1 P2 P3 : Prop) : Prop :=
  (k = 1 ∧ p = 0 ∧ (0 ≤ s ∧ s ≤ 5) ∧ (1 ≤ a ∧ a ≤ 3) ∧ q = 0 ∧ P1 ∧ m = 0) ∨ ((k = 2 ∨ k = 6) ∧ p = 0 ∧ s = 0 ∧ a = 0 ∧ q = 0 ∧ n = 0 ∧ m = 0) ∨
  (k = 3 ∧ ((1 ≤ q ∧ q ≤ 6) ∧ ((a = 0 ∧ (0 ≤ s ∧ s ≤ 5) ∧ p = 0) ∨ (a = 1 ∧ (0 ≤ p ∧ p ≤ 3) ∧ s = 0))) ∧ n = 0 ∧ m = 0) ∨
  (k = 4 ∧ (0 ≤ p ∧ p ≤ 3) ∧ (0 ≤ s ∧ s ≤ 5) ∧ (1 ≤ a ∧ a ≤ 3) ∧ q = 0 ∧ n = 0 ∧ m ≤ 40 ∧ P3) ∨ (k = 5 ∧ (0 ≤ p ∧ p ≤ 3) ∧ s = 0 ∧ a = 0 ∧ q = 0 ∧ P2 ∧ m = 0)
/-- May a record be? -/
def MayR (x : RecD) : Prop := MayP x.k x.p x.s x.a x.r x.set.length x.prs.length (x.set.length ≤ 4 ∧ AllIn x.set 0 40) (SetMay x.set) (PairsMay x.prs)
instance (x : RecD) : Decidable (MayR x) := by unfold MayR MayP; infer_instance
theorem code_of (P : Prop) : ∃ z : Int, P ↔ z = 1 := by
  by_cases h : P
  · exact ⟨1, by simp [h]⟩
  · exact ⟨0, by simp [h]⟩
theorem first_below {w w1 : World} {o : Obj} (h : Below (w.alloc o).heap.size (w.alloc o) w1) : Below w.heap.size w w1 := two_andj _ _ _ ((Below.refl _ _).alloc (Nat.le_refl _) _) h
set_option maxRecDepth 100000 in
set_option maxHeartbeats 3200000 in
theorem mayRec_1 (p s a q : Int) (st : List Int) (ps : List PairD) (A1 A2 : Option Addr) (c1 c2 : Nat) (w : World) (hx : RecC w ⟨1, p, s, a, q, st, ps⟩ A1 A2 c1 c2) (r : Bool) (hr : r = true ↔ MayR ⟨1, p, s, a, q, st, ps⟩) :
    Calls Try.prog 33 #[recV ⟨1, p, s, a, q, st, ps⟩ (.slice A1 st.length c1) (.slice A2 ps.length c2)] w fun e w' => e = .returned (.bool r) ∧ Below w.heap.size w w' := by
  change r = true ↔ MayP 1 p s a q st.length ps.length (st.length ≤ 4 ∧ AllIn st 0 40) (SetMay st) (PairsMay ps) at hr
  unfold MayP at hr
  have HR := Aside0.mk hr
  have HX := Aside0.mk hx
  clear hr hx
  unfold recV
  by_cases hm : 0 < ps.length
  · have gm : (0 : Int) < ps.length := by omega
    obtain rfl := bool_no HR.out (by omega)
    go_enter Try.func33, Try.ntmps33
    go_wp2_with fail
    all_goals
      first
        | (go_ret; exact ⟨rfl, (Below.refl _ _).alloc (Nat.le_refl _) _⟩)
        | (exfalso; omega)
  have gm : ¬ (0 : Int) < ps.length := by omega
  by_cases hq : q = 0
  case' neg =>
    have gq : (q == 0) = false := by simpa using hq
    have gnq : (q != 0) = true := by simpa using hq
    obtain rfl := bool_no HR.out (by omega)
    go_enter Try.func33, Try.ntmps33
    go_wp2_with fail
    all_goals
      first
        | (go_ret; exact ⟨rfl, (Below.refl _ _).alloc (Nat.le_refl _) _⟩)
        | (exfalso; omega)
  subst hq
  by_cases hp : p = 0
  case' neg =>
    have gp : (p == 0) = false := by simpa using hp
    have gnp : (p != 0) = true := by simpa using hp
    obtain rfl := bool_no HR.out (by omega)
    go_enter Try.func33, Try.ntmps33
    go_wp2_with fail
    all_goals
      first
        | (go_ret; exact ⟨rfl, (Below.refl _ _).alloc (Nat.le_refl _) _⟩)
        | (exfalso; omega)
  subst hp
  by_cases hs : 0 ≤ s ∧ s ≤ 5
  case' neg =>
    have Gs : Aside0 (false = decide (0 ≤ s ∧ s ≤ 5)) := ⟨(decide_eq_false hs).symm⟩
    obtain rfl := bool_no HR.out (by omega)
    go_enter Try.func33, Try.ntmps33
    go_wp2_with fail
    repeat' (first
      | (refine (splitM s _ false Gs.out).mono ?_; rintro e w1 ⟨rfl, rfl⟩; go_wp2_with fail)
      | (refine (splitM 0 _ _ rfl).mono ?_; rintro e w1 ⟨rfl, rfl⟩; go_wp2_with fail))
    all_goals
      first
        | (go_ret; exact ⟨rfl, (Below.refl _ _).alloc (Nat.le_refl _) _⟩)
        | (exfalso; omega)
  have Gs : Aside0 (true = decide (0 ≤ s ∧ s ≤ 5)) := ⟨(decide_eq_true hs).symm⟩
  by_cases ha : 1 ≤ a ∧ a ≤ 3
  case' neg =>
    have Ga : Aside0 (false = decide (1 ≤ a ∧ a ≤ 3)) := ⟨(decide_eq_false ha).symm⟩
    obtain rfl := bool_no HR.out (by omega)
    go_enter Try.func33, Try.ntmps33
    go_wp2_with fail
    repeat' (first
      | (refine (splitM s _ true Gs.out).mono ?_; rintro e w1 ⟨rfl, rfl⟩; go_wp2_with fail)
      | (refine (splitM 0 _ _ rfl).mono ?_; rintro e w1 ⟨rfl, rfl⟩; go_wp2_with fail)
      | (refine (attemptM a _ false Ga.out).mono ?_; rintro e w1 ⟨rfl, rfl⟩; go_wp2_with fail)
      | (refine (attemptM 0 _ _ rfl).mono ?_; rintro e w1 ⟨rfl, rfl⟩; go_wp2_with fail))
    all_goals
      first
        | (go_ret; exact ⟨rfl, (Below.refl _ _).alloc (Nat.le_refl _) _⟩)
        | (exfalso; omega)
  have Ga : Aside0 (true = decide (1 ≤ a ∧ a ≤ 3)) := ⟨(decide_eq_true ha).symm⟩
  have HO : Aside0 (r = true ↔ st.length ≤ 4 ∧ AllIn st 0 40) := ⟨by
    rw [HR.out]
    constructor
    · intro h
      rcases h with h | h | h | h | h
      · exact h.2.2.2.2.2.1
      · exact absurd h.1 (by decide)
      · exact absurd h.1 (by decide)
      · exact absurd h.1 (by decide)
      · exact absurd h.1 (by decide)
    · exact fun h => .inl ⟨rfl, rfl, hs, ha, rfl, h, by omega⟩⟩
  go_enter Try.func33, Try.ntmps33
  go_wp2_with fail
  repeat' (first
    | (refine (splitM s _ true Gs.out).mono ?_; rintro e w1 ⟨rfl, rfl⟩; go_wp2_with fail)
    | (refine (splitM 0 _ _ rfl).mono ?_; rintro e w1 ⟨rfl, rfl⟩; go_wp2_with fail)
    | (refine (attemptM a _ true Ga.out).mono ?_; rintro e w1 ⟨rfl, rfl⟩; go_wp2_with fail)
    | (refine (attemptM 0 _ _ rfl).mono ?_; rintro e w1 ⟨rfl, rfl⟩; go_wp2_with fail)
    | (refine (countsM A1 c1 st _ (Kd.C_below HX.out.s ((Below.refl _ _).alloc (Nat.le_refl _) _)) r HO.out).mono ?_; rintro e w1 ⟨rfl, hb1⟩; have HB1 := Aside0.mk hb1; clear hb1; go_wp2_with fail))
  all_goals
    first
      | (go_ret; exact ⟨rfl, first_below HB1.out⟩)
      | (exfalso; omega)
set_option maxRecDepth 100000 in
set_option maxHeartbeats 3200000 in
theorem mayRec_2 (p s a q : Int) (st : List Int) (ps : List PairD) (A1 A2 : Option Addr) (c1 c2 : Nat) (w : World) (hx : RecC w ⟨2, p, s, a, q, st, ps⟩ A1 A2 c1 c2) (r : Bool) (hr : r = true ↔ MayR ⟨2, p, s, a, q, st, ps⟩) :
    Calls Try.prog 33 #[recV ⟨2, p, s, a, q, st, ps⟩ (.slice A1 st.length c1) (.slice A2 ps.length c2)] w fun e w' => e = .returned (.bool r) ∧ Below w.heap.size w w' := by
  change r = true ↔ MayP 2 p s a q st.length ps.length (st.length ≤ 4 ∧ AllIn st 0 40) (SetMay st) (PairsMay ps) at hr
  unfold MayP at hr
  have HR := Aside0.mk hr
  have HX := Aside0.mk hx
  clear hr hx
  unfold recV
  by_cases hn : 0 < st.length
  · have gn : (0 : Int) < st.length := by omega
    obtain rfl := bool_no HR.out (by omega)
    go_enter Try.func33, Try.ntmps33
    go_wp2_with fail
    all_goals
      first
        | (go_ret; exact ⟨rfl, (Below.refl _ _).alloc (Nat.le_refl _) _⟩)
        | (exfalso; omega)
  have gn : ¬ (0 : Int) < st.length := by omega
  by_cases hm : 0 < ps.length
  · have gm : (0 : Int) < ps.length := by omega
    obtain rfl := bool_no HR.out (by omega)
    go_enter Try.func33, Try.ntmps33
    go_wp2_with fail
    all_goals
      first
        | (go_ret; exact ⟨rfl, (Below.refl _ _).alloc (Nat.le_refl _) _⟩)
        | (exfalso; omega)
  have gm : ¬ (0 : Int) < ps.length := by omega
  by_cases hq : q = 0
  case' neg =>
    have gq : (q == 0) = false := by simpa using hq
    have gnq : (q != 0) = true := by simpa using hq
    obtain rfl := bool_no HR.out (by omega)
    go_enter Try.func33, Try.ntmps33
    go_wp2_with fail
    all_goals
      first
        | (go_ret; exact ⟨rfl, (Below.refl _ _).alloc (Nat.le_refl _) _⟩)
        | (exfalso; omega)
  subst hq
  by_cases hp : p = 0
  case' neg =>
    have gp : (p == 0) = false := by simpa using hp
    have gnp : (p != 0) = true := by simpa using hp
    obtain rfl := bool_no HR.out (by omega)
    go_enter Try.func33, Try.ntmps33
    go_wp2_with fail
    all_goals
      first
        | (go_ret; exact ⟨rfl, (Below.refl _ _).alloc (Nat.le_refl _) _⟩)
        | (exfalso; omega)
  subst hp
  by_cases hs : s = 0
  case' neg =>
    have gs : (s == 0) = false := by simpa using hs
    have gns : (s != 0) = true := by simpa using hs
    obtain rfl := bool_no HR.out (by omega)
    go_enter Try.func33, Try.ntmps33
    go_wp2_with fail
    all_goals
      first
        | (go_ret; exact ⟨rfl, (Below.refl _ _).alloc (Nat.le_refl _) _⟩)
        | (exfalso; omega)
  subst hs
  by_cases ha : a = 0
  case' neg =>
    have ga : (a == 0) = false := by simpa using ha
    have gna : (a != 0) = true := by simpa using ha
    obtain rfl := bool_no HR.out (by omega)
    go_enter Try.func33, Try.ntmps33
    go_wp2_with fail
    all_goals
      first
        | (go_ret; exact ⟨rfl, (Below.refl _ _).alloc (Nat.le_refl _) _⟩)
        | (exfalso; omega)
  subst ha
  obtain rfl := HR.out.2 (.inr (.inl ⟨.inl rfl, rfl, rfl, rfl, rfl, by omega, by omega⟩))
  go_enter Try.func33, Try.ntmps33
  go_wp2_with fail
  all_goals
    first
      | (go_ret; exact ⟨rfl, (Below.refl _ _).alloc (Nat.le_refl _) _⟩)
      | (exfalso; omega)
set_option maxRecDepth 100000 in
set_option maxHeartbeats 3200000 in
theorem mayRec_3 (p s a q : Int) (st : List Int) (ps : List PairD) (A1 A2 : Option Addr) (c1 c2 : Nat) (w : World) (hx : RecC w ⟨3, p, s, a, q, st, ps⟩ A1 A2 c1 c2) (r : Bool) (hr : r = true ↔ MayR ⟨3, p, s, a, q, st, ps⟩) :
    Calls Try.prog 33 #[recV ⟨3, p, s, a, q, st, ps⟩ (.slice A1 st.length c1) (.slice A2 ps.length c2)] w fun e w' => e = .returned (.bool r) ∧ Below w.heap.size w w' := by
  change r = true ↔ MayP 3 p s a q st.length ps.length (st.length ≤ 4 ∧ AllIn st 0 40) (SetMay st) (PairsMay ps) at hr
  unfold MayP at hr
  have HR := Aside0.mk hr
  have HX := Aside0.mk hx
  clear hr hx
  unfold recV
  by_cases hn : 0 < st.length
  · have gn : (0 : Int) < st.length := by omega
    obtain rfl := bool_no HR.out (by omega)
    go_enter Try.func33, Try.ntmps33
    go_wp2_with fail
    all_goals
      first
        | (go_ret; exact ⟨rfl, (Below.refl _ _).alloc (Nat.le_refl _) _⟩)
        | (exfalso; omega)
  have gn : ¬ (0 : Int) < st.length := by omega
  by_cases hm : 0 < ps.length
  · have gm : (0 : Int) < ps.length := by omega
    obtain rfl := bool_no HR.out (by omega)
    go_enter Try.func33, Try.ntmps33
    go_wp2_with fail
    all_goals
      first
        | (go_ret; exact ⟨rfl, (Below.refl _ _).alloc (Nat.le_refl _) _⟩)
        | (exfalso; omega)
  have gm : ¬ (0 : Int) < ps.length := by omega
  by_cases hp : p = 0
  case' neg =>
    have gp : (p == 0) = false := by simpa using hp
    have HO : Aside0 (r = true ↔ OverMay ⟨3, p, s, a, q, st, ps⟩) := ⟨by
      rw [HR.out]
      constructor
      · intro h
        rcases h with h | h | h | h | h
        · exact absurd h.1 (by decide)
        · exact absurd h.1 (by decide)
        · exact h.2.1
        · exact absurd h.1 (by decide)
        · exact absurd h.1 (by decide)
      · exact fun h => .inr (.inr (.inl ⟨rfl, h, by omega, by omega⟩))⟩
    go_enter Try.func33, Try.ntmps33
    go_wp2_with fail
    repeat' (first
      | (refine (overM ⟨3, p, s, a, q, st, ps⟩ _ _ _ r HO.out).mono ?_; rintro e w1 ⟨rfl, hb1⟩; have HB1 := Aside0.mk hb1; clear hb1; go_wp2_with fail))
    all_goals
      first
        | (go_ret; exact ⟨rfl, first_below HB1.out⟩)
        | (exfalso; omega)
  subst hp
  by_cases hs : s = 0
  case' neg =>
    have gs : (s == 0) = false := by simpa using hs
    have HO : Aside0 (r = true ↔ OverMay ⟨3, 0, s, a, q, st, ps⟩) := ⟨by
      rw [HR.out]
      constructor
      · intro h
        rcases h with h | h | h | h | h
        · exact absurd h.1 (by decide)
        · exact absurd h.1 (by decide)
        · exact h.2.1
        · exact absurd h.1 (by decide)
        · exact absurd h.1 (by decide)
      · exact fun h => .inr (.inr (.inl ⟨rfl, h, by omega, by omega⟩))⟩
    go_enter Try.func33, Try.ntmps33
    go_wp2_with fail
    repeat' (first
      | (refine (overM ⟨3, 0, s, a, q, st, ps⟩ _ _ _ r HO.out).mono ?_; rintro e w1 ⟨rfl, hb1⟩; have HB1 := Aside0.mk hb1; clear hb1; go_wp2_with fail))
    all_goals
      first
        | (go_ret; exact ⟨rfl, first_below HB1.out⟩)
        | (exfalso; omega)
  subst hs
  by_cases ha : a = 0
  case' neg =>
    have ga : (a == 0) = false := by simpa using ha
    have HO : Aside0 (r = true ↔ OverMay ⟨3, 0, 0, a, q, st, ps⟩) := ⟨by
      rw [HR.out]
      constructor
      · intro h
        rcases h with h | h | h | h | h
        · exact absurd h.1 (by decide)
        · exact absurd h.1 (by decide)
        · exact h.2.1
        · exact absurd h.1 (by decide)
        · exact absurd h.1 (by decide)
      · exact fun h => .inr (.inr (.inl ⟨rfl, h, by omega, by omega⟩))⟩
    go_enter Try.func33, Try.ntmps33
    go_wp2_with fail
    repeat' (first
      | (refine (overM ⟨3, 0, 0, a, q, st, ps⟩ _ _ _ r HO.out).mono ?_; rintro e w1 ⟨rfl, hb1⟩; have HB1 := Aside0.mk hb1; clear hb1; go_wp2_with fail))
    all_goals
      first
        | (go_ret; exact ⟨rfl, first_below HB1.out⟩)
        | (exfalso; omega)
  subst ha
  have HO : Aside0 (r = true ↔ OverMay ⟨3, 0, 0, 0, q, st, ps⟩) := ⟨by
    rw [HR.out]
    constructor
    · intro h
      rcases h with h | h | h | h | h
      · exact absurd h.1 (by decide)
      · exact absurd h.1 (by decide)
      · exact h.2.1
      · exact absurd h.1 (by decide)
      · exact absurd h.1 (by decide)
    · exact fun h => .inr (.inr (.inl ⟨rfl, h, by omega, by omega⟩))⟩
  go_enter Try.func33, Try.ntmps33
  go_wp2_with fail
  repeat' (first
    | (refine (overM ⟨3, 0, 0, 0, q, st, ps⟩ _ _ _ r HO.out).mono ?_; rintro e w1 ⟨rfl, hb1⟩; have HB1 := Aside0.mk hb1; clear hb1; go_wp2_with fail))
  all_goals
    first
      | (go_ret; exact ⟨rfl, first_below HB1.out⟩)
      | (exfalso; omega)
set_option maxRecDepth 100000 in
set_option maxHeartbeats 3200000 in
theorem mayRec_4 (p s a q : Int) (st : List Int) (ps : List PairD) (A1 A2 : Option Addr) (c1 c2 : Nat) (w : World) (hx : RecC w ⟨4, p, s, a, q, st, ps⟩ A1 A2 c1 c2) (r : Bool) (hr : r = true ↔ MayR ⟨4, p, s, a, q, st, ps⟩) :
    Calls Try.prog 33 #[recV ⟨4, p, s, a, q, st, ps⟩ (.slice A1 st.length c1) (.slice A2 ps.length c2)] w fun e w' => e = .returned (.bool r) ∧ Below w.heap.size w w' := by
  change r = true ↔ MayP 4 p s a q st.length ps.length (st.length ≤ 4 ∧ AllIn st 0 40) (SetMay st) (PairsMay ps) at hr
  unfold MayP at hr
  have HR := Aside0.mk hr
  have HX := Aside0.mk hx
  clear hr hx
  unfold recV
  by_cases hn : 0 < st.length
  · have gn : (0 : Int) < st.length := by omega
    obtain rfl := bool_no HR.out (by omega)
    go_enter Try.func33, Try.ntmps33
    go_wp2_with fail
    all_goals
      first
        | (go_ret; exact ⟨rfl, (Below.refl _ _).alloc (Nat.le_refl _) _⟩)
        | (exfalso; omega)
  have gn : ¬ (0 : Int) < st.length := by omega
  by_cases hq : q = 0
  case' neg =>
    have gq : (q == 0) = false := by simpa using hq
    have gnq : (q != 0) = true := by simpa using hq
    obtain rfl := bool_no HR.out (by omega)
    go_enter Try.func33, Try.ntmps33
    go_wp2_with fail
    all_goals
      first
        | (go_ret; exact ⟨rfl, (Below.refl _ _).alloc (Nat.le_refl _) _⟩)
        | (exfalso; omega)
  subst hq
  by_cases hp : 0 ≤ p ∧ p ≤ 3
  case' neg =>
    have Gp : Aside0 (false = decide (0 ≤ p ∧ p ≤ 3)) := ⟨(decide_eq_false hp).symm⟩
    obtain rfl := bool_no HR.out (by omega)
    go_enter Try.func33, Try.ntmps33
    go_wp2_with fail
    repeat' (first
      | (refine (partM p _ false Gp.out).mono ?_; rintro e w1 ⟨rfl, rfl⟩; go_wp2_with fail)
      | (refine (partM 0 _ _ rfl).mono ?_; rintro e w1 ⟨rfl, rfl⟩; go_wp2_with fail))
    all_goals
      first
        | (go_ret; exact ⟨rfl, (Below.refl _ _).alloc (Nat.le_refl _) _⟩)
        | (exfalso; omega)
  have Gp : Aside0 (true = decide (0 ≤ p ∧ p ≤ 3)) := ⟨(decide_eq_true hp).symm⟩
  by_cases hs : 0 ≤ s ∧ s ≤ 5
  case' neg =>
    have Gs : Aside0 (false = decide (0 ≤ s ∧ s ≤ 5)) := ⟨(decide_eq_false hs).symm⟩
    obtain rfl := bool_no HR.out (by omega)
    go_enter Try.func33, Try.ntmps33
    go_wp2_with fail
    repeat' (first
      | (refine (partM p _ true Gp.out).mono ?_; rintro e w1 ⟨rfl, rfl⟩; go_wp2_with fail)
      | (refine (partM 0 _ _ rfl).mono ?_; rintro e w1 ⟨rfl, rfl⟩; go_wp2_with fail)
      | (refine (splitM s _ false Gs.out).mono ?_; rintro e w1 ⟨rfl, rfl⟩; go_wp2_with fail)
      | (refine (splitM 0 _ _ rfl).mono ?_; rintro e w1 ⟨rfl, rfl⟩; go_wp2_with fail))
    all_goals
      first
        | (go_ret; exact ⟨rfl, (Below.refl _ _).alloc (Nat.le_refl _) _⟩)
        | (exfalso; omega)
  have Gs : Aside0 (true = decide (0 ≤ s ∧ s ≤ 5)) := ⟨(decide_eq_true hs).symm⟩
  by_cases ha : 1 ≤ a ∧ a ≤ 3
  case' neg =>
    have Ga : Aside0 (false = decide (1 ≤ a ∧ a ≤ 3)) := ⟨(decide_eq_false ha).symm⟩
    obtain rfl := bool_no HR.out (by omega)
    go_enter Try.func33, Try.ntmps33
    go_wp2_with fail
    repeat' (first
      | (refine (partM p _ true Gp.out).mono ?_; rintro e w1 ⟨rfl, rfl⟩; go_wp2_with fail)
      | (refine (partM 0 _ _ rfl).mono ?_; rintro e w1 ⟨rfl, rfl⟩; go_wp2_with fail)
      | (refine (splitM s _ true Gs.out).mono ?_; rintro e w1 ⟨rfl, rfl⟩; go_wp2_with fail)
      | (refine (splitM 0 _ _ rfl).mono ?_; rintro e w1 ⟨rfl, rfl⟩; go_wp2_with fail)
      | (refine (attemptM a _ false Ga.out).mono ?_; rintro e w1 ⟨rfl, rfl⟩; go_wp2_with fail)
      | (refine (attemptM 0 _ _ rfl).mono ?_; rintro e w1 ⟨rfl, rfl⟩; go_wp2_with fail))
    all_goals
      first
        | (go_ret; exact ⟨rfl, (Below.refl _ _).alloc (Nat.le_refl _) _⟩)
        | (exfalso; omega)
  have Ga : Aside0 (true = decide (1 ≤ a ∧ a ≤ 3)) := ⟨(decide_eq_true ha).symm⟩
  by_cases h40 : ps.length ≤ 40
  case' neg =>
    have g40 : ¬ (ps.length : Int) ≤ 40 := by omega
    obtain rfl := bool_no HR.out (by omega)
    go_enter Try.func33, Try.ntmps33
    go_wp2_with fail
    repeat' (first
      | (refine (partM p _ true Gp.out).mono ?_; rintro e w1 ⟨rfl, rfl⟩; go_wp2_with fail)
      | (refine (partM 0 _ _ rfl).mono ?_; rintro e w1 ⟨rfl, rfl⟩; go_wp2_with fail)
      | (refine (splitM s _ true Gs.out).mono ?_; rintro e w1 ⟨rfl, rfl⟩; go_wp2_with fail)
      | (refine (splitM 0 _ _ rfl).mono ?_; rintro e w1 ⟨rfl, rfl⟩; go_wp2_with fail)
      | (refine (attemptM a _ true Ga.out).mono ?_; rintro e w1 ⟨rfl, rfl⟩; go_wp2_with fail)
      | (refine (attemptM 0 _ _ rfl).mono ?_; rintro e w1 ⟨rfl, rfl⟩; go_wp2_with fail))
    all_goals
      first
        | (go_ret; exact ⟨rfl, (Below.refl _ _).alloc (Nat.le_refl _) _⟩)
        | (exfalso; omega)
  have g40 : (ps.length : Int) ≤ 40 := by omega
  have HO : Aside0 (r = true ↔ PairsMay ps) := ⟨by
    rw [HR.out]
    constructor
    · intro h
      rcases h with h | h | h | h | h
      · exact absurd h.1 (by decide)
      · exact absurd h.1 (by decide)
      · exact absurd h.1 (by decide)
      · exact h.2.2.2.2.2.2.2
      · exact absurd h.1 (by decide)
    · exact fun h => .inr (.inr (.inr (.inl ⟨rfl, hp, hs, ha, rfl, by omega, by omega, h⟩)))⟩
  have HO2 : Aside0 (r = decide (PairsMay ps)) := ⟨by cases r; exact (decide_eq_false (fun h => by cases HO.out.2 h)).symm; exact (decide_eq_true (HO.out.1 rfl)).symm⟩
  go_enter Try.func33, Try.ntmps33
  go_wp2_with fail
  repeat' (first
    | (refine (partM p _ true Gp.out).mono ?_; rintro e w1 ⟨rfl, rfl⟩; go_wp2_with fail)
    | (refine (partM 0 _ _ rfl).mono ?_; rintro e w1 ⟨rfl, rfl⟩; go_wp2_with fail)
    | (refine (splitM s _ true Gs.out).mono ?_; rintro e w1 ⟨rfl, rfl⟩; go_wp2_with fail)
    | (refine (splitM 0 _ _ rfl).mono ?_; rintro e w1 ⟨rfl, rfl⟩; go_wp2_with fail)
    | (refine (attemptM a _ true Ga.out).mono ?_; rintro e w1 ⟨rfl, rfl⟩; go_wp2_with fail)
    | (refine (attemptM 0 _ _ rfl).mono ?_; rintro e w1 ⟨rfl, rfl⟩; go_wp2_with fail)
    | (refine (pairMay A2 c2 ps _ (Kd.C_below HX.out.p ((Below.refl _ _).alloc (Nat.le_refl _) _)) r HO2.out).mono ?_; rintro e w1 ⟨rfl, hb1⟩; have HB1 := Aside0.mk hb1; clear hb1; go_wp2_with fail))
  all_goals
    first
      | (go_ret; exact ⟨rfl, first_below HB1.out⟩)
      | (exfalso; omega)
set_option maxRecDepth 100000 in
set_option maxHeartbeats 3200000 in
theorem mayRec_5 (p s a q : Int) (st : List Int) (ps : List PairD) (A1 A2 : Option Addr) (c1 c2 : Nat) (w : World) (hx : RecC w ⟨5, p, s, a, q, st, ps⟩ A1 A2 c1 c2) (r : Bool) (hr : r = true ↔ MayR ⟨5, p, s, a, q, st, ps⟩) :
    Calls Try.prog 33 #[recV ⟨5, p, s, a, q, st, ps⟩ (.slice A1 st.length c1) (.slice A2 ps.length c2)] w fun e w' => e = .returned (.bool r) ∧ Below w.heap.size w w' := by
  change r = true ↔ MayP 5 p s a q st.length ps.length (st.length ≤ 4 ∧ AllIn st 0 40) (SetMay st) (PairsMay ps) at hr
  unfold MayP at hr
  have HR := Aside0.mk hr
  have HX := Aside0.mk hx
  clear hr hx
  unfold recV
  by_cases hm : 0 < ps.length
  · have gm : (0 : Int) < ps.length := by omega
    obtain rfl := bool_no HR.out (by omega)
    go_enter Try.func33, Try.ntmps33
    go_wp2_with fail
    all_goals
      first
        | (go_ret; exact ⟨rfl, (Below.refl _ _).alloc (Nat.le_refl _) _⟩)
        | (exfalso; omega)
  have gm : ¬ (0 : Int) < ps.length := by omega
  by_cases hq : q = 0
  case' neg =>
    have gq : (q == 0) = false := by simpa using hq
    have gnq : (q != 0) = true := by simpa using hq
    obtain rfl := bool_no HR.out (by omega)
    go_enter Try.func33, Try.ntmps33
    go_wp2_with fail
    all_goals
      first
        | (go_ret; exact ⟨rfl, (Below.refl _ _).alloc (Nat.le_refl _) _⟩)
        | (exfalso; omega)
  subst hq
  by_cases hp : 0 ≤ p ∧ p ≤ 3
  case' neg =>
    have Gp : Aside0 (false = decide (0 ≤ p ∧ p ≤ 3)) := ⟨(decide_eq_false hp).symm⟩
    obtain rfl := bool_no HR.out (by omega)
    go_enter Try.func33, Try.ntmps33
    go_wp2_with fail
    repeat' (first
      | (refine (partM p _ false Gp.out).mono ?_; rintro e w1 ⟨rfl, rfl⟩; go_wp2_with fail)
      | (refine (partM 0 _ _ rfl).mono ?_; rintro e w1 ⟨rfl, rfl⟩; go_wp2_with fail))
    all_goals
      first
        | (go_ret; exact ⟨rfl, (Below.refl _ _).alloc (Nat.le_refl _) _⟩)
        | (exfalso; omega)
  have Gp : Aside0 (true = decide (0 ≤ p ∧ p ≤ 3)) := ⟨(decide_eq_true hp).symm⟩
  by_cases hs : s = 0
  case' neg =>
    have gs : (s == 0) = false := by simpa using hs
    have gns : (s != 0) = true := by simpa using hs
    obtain rfl := bool_no HR.out (by omega)
    go_enter Try.func33, Try.ntmps33
    go_wp2_with fail
    repeat' (first
      | (refine (partM p _ true Gp.out).mono ?_; rintro e w1 ⟨rfl, rfl⟩; go_wp2_with fail)
      | (refine (partM 0 _ _ rfl).mono ?_; rintro e w1 ⟨rfl, rfl⟩; go_wp2_with fail))
    all_goals
      first
        | (go_ret; exact ⟨rfl, (Below.refl _ _).alloc (Nat.le_refl _) _⟩)
        | (exfalso; omega)
  subst hs
  by_cases ha : a = 0
  case' neg =>
    have ga : (a == 0) = false := by simpa using ha
    have gna : (a != 0) = true := by simpa using ha
    obtain rfl := bool_no HR.out (by omega)
    go_enter Try.func33, Try.ntmps33
    go_wp2_with fail
    repeat' (first
      | (refine (partM p _ true Gp.out).mono ?_; rintro e w1 ⟨rfl, rfl⟩; go_wp2_with fail)
      | (refine (partM 0 _ _ rfl).mono ?_; rintro e w1 ⟨rfl, rfl⟩; go_wp2_with fail))
    all_goals
      first
        | (go_ret; exact ⟨rfl, (Below.refl _ _).alloc (Nat.le_refl _) _⟩)
        | (exfalso; omega)
  subst ha
  have HO : Aside0 (r = true ↔ SetMay st) := ⟨by
    rw [HR.out]
    constructor
    · intro h
      rcases h with h | h | h | h | h
      · exact absurd h.1 (by decide)
      · exact absurd h.1 (by decide)
      · exact absurd h.1 (by decide)
      · exact absurd h.1 (by decide)
      · exact h.2.2.2.2.2.1
    · exact fun h => .inr (.inr (.inr (.inr ⟨rfl, hp, rfl, rfl, rfl, h, by omega⟩)))⟩
  go_enter Try.func33, Try.ntmps33
  go_wp2_with fail
  repeat' (first
    | (refine (partM p _ true Gp.out).mono ?_; rintro e w1 ⟨rfl, rfl⟩; go_wp2_with fail)
    | (refine (partM 0 _ _ rfl).mono ?_; rintro e w1 ⟨rfl, rfl⟩; go_wp2_with fail)
    | (refine (setM A1 c1 st _ (Kd.C_below HX.out.s ((Below.refl _ _).alloc (Nat.le_refl _) _)) r HO.out).mono ?_; rintro e w1 ⟨rfl, hb1⟩; have HB1 := Aside0.mk hb1; clear hb1; go_wp2_with fail))
  all_goals
    first
      | (go_ret; exact ⟨rfl, first_below HB1.out⟩)
      | (exfalso; omega)
set_option maxRecDepth 100000 in
set_option maxHeartbeats 3200000 in
theorem mayRec_6 (p s a q : Int) (st : List Int) (ps : List PairD) (A1 A2 : Option Addr) (c1 c2 : Nat) (w : World) (hx : RecC w ⟨6, p, s, a, q, st, ps⟩ A1 A2 c1 c2) (r : Bool) (hr : r = true ↔ MayR ⟨6, p, s, a, q, st, ps⟩) :
    Calls Try.prog 33 #[recV ⟨6, p, s, a, q, st, ps⟩ (.slice A1 st.length c1) (.slice A2 ps.length c2)] w fun e w' => e = .returned (.bool r) ∧ Below w.heap.size w w' := by
  change r = true ↔ MayP 6 p s a q st.length ps.length (st.length ≤ 4 ∧ AllIn st 0 40) (SetMay st) (PairsMay ps) at hr
  unfold MayP at hr
  have HR := Aside0.mk hr
  have HX := Aside0.mk hx
  clear hr hx
  unfold recV
  by_cases hn : 0 < st.length
  · have gn : (0 : Int) < st.length := by omega
    obtain rfl := bool_no HR.out (by omega)
    go_enter Try.func33, Try.ntmps33
    go_wp2_with fail
    all_goals
      first
        | (go_ret; exact ⟨rfl, (Below.refl _ _).alloc (Nat.le_refl _) _⟩)
        | (exfalso; omega)
  have gn : ¬ (0 : Int) < st.length := by omega
  by_cases hm : 0 < ps.length
  · have gm : (0 : Int) < ps.length := by omega
    obtain rfl := bool_no HR.out (by omega)
    go_enter Try.func33, Try.ntmps33
    go_wp2_with fail
    all_goals
      first
        | (go_ret; exact ⟨rfl, (Below.refl _ _).alloc (Nat.le_refl _) _⟩)
        | (exfalso; omega)
  have gm : ¬ (0 : Int) < ps.length := by omega
  by_cases hq : q = 0
  case' neg =>
    have gq : (q == 0) = false := by simpa using hq
    have gnq : (q != 0) = true := by simpa using hq
    obtain rfl := bool_no HR.out (by omega)
    go_enter Try.func33, Try.ntmps33
    go_wp2_with fail
    all_goals
      first
        | (go_ret; exact ⟨rfl, (Below.refl _ _).alloc (Nat.le_refl _) _⟩)
        | (exfalso; omega)
  subst hq
  by_cases hp : p = 0
  case' neg =>
    have gp : (p == 0) = false := by simpa using hp
    have gnp : (p != 0) = true := by simpa using hp
    obtain rfl := bool_no HR.out (by omega)
    go_enter Try.func33, Try.ntmps33
    go_wp2_with fail
    all_goals
      first
        | (go_ret; exact ⟨rfl, (Below.refl _ _).alloc (Nat.le_refl _) _⟩)
        | (exfalso; omega)
  subst hp
  by_cases hs : s = 0
  case' neg =>
    have gs : (s == 0) = false := by simpa using hs
    have gns : (s != 0) = true := by simpa using hs
    obtain rfl := bool_no HR.out (by omega)
    go_enter Try.func33, Try.ntmps33
    go_wp2_with fail
    all_goals
      first
        | (go_ret; exact ⟨rfl, (Below.refl _ _).alloc (Nat.le_refl _) _⟩)
        | (exfalso; omega)
  subst hs
  by_cases ha : a = 0
  case' neg =>
    have ga : (a == 0) = false := by simpa using ha
    have gna : (a != 0) = true := by simpa using ha
    obtain rfl := bool_no HR.out (by omega)
    go_enter Try.func33, Try.ntmps33
    go_wp2_with fail
    all_goals
      first
        | (go_ret; exact ⟨rfl, (Below.refl _ _).alloc (Nat.le_refl _) _⟩)
        | (exfalso; omega)
  subst ha
  obtain rfl := HR.out.2 (.inr (.inl ⟨.inr rfl, rfl, rfl, rfl, rfl, by omega, by omega⟩))
  go_enter Try.func33, Try.ntmps33
  go_wp2_with fail
  all_goals
    first
      | (go_ret; exact ⟨rfl, (Below.refl _ _).alloc (Nat.le_refl _) _⟩)
      | (exfalso; omega)
set_option maxRecDepth 100000 in
set_option maxHeartbeats 3200000 in
theorem mayRec_0 (k : Int) (hk : k ≠ 1 ∧ k ≠ 2 ∧ k ≠ 3 ∧ k ≠ 4 ∧ k ≠ 5 ∧ k ≠ 6) (p s a q : Int) (st : List Int) (ps : List PairD) (A1 A2 : Option Addr) (c1 c2 : Nat) (w : World) (hx : RecC w ⟨k, p, s, a, q, st, ps⟩ A1 A2 c1 c2) (r : Bool) (hr : r = true ↔ MayR ⟨k, p, s, a, q, st, ps⟩) :
    Calls Try.prog 33 #[recV ⟨k, p, s, a, q, st, ps⟩ (.slice A1 st.length c1) (.slice A2 ps.length c2)] w fun e w' => e = .returned (.bool r) ∧ Below w.heap.size w w' := by
  change r = true ↔ MayP k p s a q st.length ps.length (st.length ≤ 4 ∧ AllIn st 0 40) (SetMay st) (PairsMay ps) at hr
  unfold MayP at hr
  have HR := Aside0.mk hr
  have HX := Aside0.mk hx
  clear hr hx
  unfold recV
  obtain ⟨hk1, hk2, hk3, hk4, hk5, hk6⟩ := hk
  have gk1 : (k == 1) = false := by simpa using hk1
  have gn1 : (k != 1) = true := by simpa using hk1
  have gk2 : (k == 2) = false := by simpa using hk2
  have gn2 : (k != 2) = true := by simpa using hk2
  have gk3 : (k == 3) = false := by simpa using hk3
  have gn3 : (k != 3) = true := by simpa using hk3
  have gk4 : (k == 4) = false := by simpa using hk4
  have gn4 : (k != 4) = true := by simpa using hk4
  have gk5 : (k == 5) = false := by simpa using hk5
  have gn5 : (k != 5) = true := by simpa using hk5
  have gk6 : (k == 6) = false := by simpa using hk6
  have gn6 : (k != 6) = true := by simpa using hk6
  obtain rfl := bool_no HR.out (by omega)
  clear HR hk1 hk2 hk3 hk4 hk5 hk6
  by_cases hn : 0 < st.length
  · have gn : (0 : Int) < st.length := by omega
    go_enter Try.func33, Try.ntmps33
    go_wp2_with fail
    all_goals
      first
        | (go_ret; exact ⟨rfl, (Below.refl _ _).alloc (Nat.le_refl _) _⟩)
        | (exfalso; omega)
  have gn : ¬ (0 : Int) < st.length := by omega
  by_cases hm : 0 < ps.length
  · have gm : (0 : Int) < ps.length := by omega
    go_enter Try.func33, Try.ntmps33
    go_wp2_with fail
    all_goals
      first
        | (go_ret; exact ⟨rfl, (Below.refl _ _).alloc (Nat.le_refl _) _⟩)
        | (exfalso; omega)
  have gm : ¬ (0 : Int) < ps.length := by omega
  by_cases hq : q = 0
  case' neg =>
    have gq : (q == 0) = false := by simpa using hq
    have gnq : (q != 0) = true := by simpa using hq
    go_enter Try.func33, Try.ntmps33
    go_wp2_with fail
    all_goals
      first
        | (go_ret; exact ⟨rfl, (Below.refl _ _).alloc (Nat.le_refl _) _⟩)
        | (exfalso; omega)
  subst hq
  go_enter Try.func33, Try.ntmps33
  go_wp2_with fail
  all_goals
    first
      | (go_ret; exact ⟨rfl, (Below.refl _ _).alloc (Nat.le_refl _) _⟩)
      | (exfalso; omega)
theorem mayRec (x : RecD) (A1 A2 : Option Addr) (c1 c2 : Nat) (w : World) (hx : RecC w x A1 A2 c1 c2) (r : Bool) (hr : r = true ↔ MayR x) :
    Calls Try.prog 33 #[recV x (.slice A1 x.set.length c1) (.slice A2 x.prs.length c2)] w fun e w' => e = .returned (.bool r) ∧ Below w.heap.size w w' := by
  obtain ⟨k, p, s, a, q, st, ps⟩ := x
  rcases (show k = 1 ∨ k = 2 ∨ k = 3 ∨ k = 4 ∨ k = 5 ∨ k = 6 ∨ (k ≠ 1 ∧ k ≠ 2 ∧ k ≠ 3 ∧ k ≠ 4 ∧ k ≠ 5 ∧ k ≠ 6) from by omega) with rfl | rfl | rfl | rfl | rfl | rfl | hk
  · exact mayRec_1 p s a q st ps A1 A2 c1 c2 w hx r hr
  · exact mayRec_2 p s a q st ps A1 A2 c1 c2 w hx r hr
  · exact mayRec_3 p s a q st ps A1 A2 c1 c2 w hx r hr
  · exact mayRec_4 p s a q st ps A1 A2 c1 c2 w hx r hr
  · exact mayRec_5 p s a q st ps A1 A2 c1 c2 w hx r hr
  · exact mayRec_6 p s a q st ps A1 A2 c1 c2 w hx r hr
  · exact mayRec_0 k hk p s a q st ps A1 A2 c1 c2 w hx r hr
end Go.Proofs.Ytkgbcoijkmlmnaa.K
