/- Which records may be: the document's answer. WRITTEN BY wip/gen_refmay.py. -/
import Derived.Test.YtkgbcoijkmlmnaaR3
set_option linter.unusedVariables false
set_option linter.unusedSimpArgs false
namespace Go.Proofs.Ytkgbcoijkmlmnaa.K
open Go.RowKit Go.Proofs.YtkgbcoijkmlmnaaW.PrintWords Go.Proofs.YtkgbcoijkmlmnaaW.PrintLast Go.Proofs.YtkgbcoijkmlmnaaW.PrintMore Go.Proofs.Ytkgbcoijkmlmnaa.U Go.Proofs.Ytkgbcoijkmlmnaa.T

theorem box_drewN (w : World) (o : Obj) (m : Nat) : ((w.alloc o).drewN m).heap[w.heap.size]? = some o := ((pw_below_drewN (Below.refl (w.alloc o).heap.size (w.alloc o)) m).block _ (blk_lt' (alloc_at w o))).trans (alloc_at w o)
theorem below_box_drewN (w : World) (o : Obj) (m : Nat) : Below w.heap.size w ((w.alloc o).drewN m) := pw_below_drewN ((Below.refl _ _).alloc (Nat.le_refl _) _) m
theorem blk_drewN (w : World) (m : Nat) {g : Nat} {o : Obj} (h : w.heap[g]? = some o) : (w.drewN m).heap[g]? = some o := ((pw_below_drewN (Below.refl w.heap.size w) m).block _ (blk_lt' h)).trans h
set_option maxRecDepth 100000 in
set_option maxHeartbeats 6400000 in
theorem refMayRec_1 (p s a q : Int) (st : List Int) (ps : List PairD) (A1 A2 : Option Addr) (c1 c2 : Nat) (w : World) (hx : RecC w ⟨1, p, s, a, q, st, ps⟩ A1 A2 c1 c2) (r : Bool) (hr : r = true ↔ MayR ⟨1, p, s, a, q, st, ps⟩) :
    Calls Try.prog 37 #[recV ⟨1, p, s, a, q, st, ps⟩ (.slice A1 st.length c1) (.slice A2 ps.length c2)] w fun e w' => e = .returned (.bool r) ∧ Below w.heap.size w w' := by
  change r = true ↔ MayP 1 p s a q st.length ps.length (st.length ≤ 4 ∧ AllIn st 0 40) (SetMay st) (PairsMay ps) at hr
  unfold MayP at hr
  have HR := Aside0.mk hr
  have HXs : Aside0 (Kd.C kI w A1 st.length st) := ⟨hx.s⟩
  have HXp : Aside0 (Kd.C kPair w A2 ps.length ps) := ⟨hx.p⟩
  have hm0 : st.length ≤ 9223372036854775807 := Kd.C_max hx.s
  clear hr hx
  unfold recV
  go_enter Try.func37, Try.ntmps37
  go_wp2_with fail
  go_quiet (fail)
  go_wp2_with fail
  go_quiet (fail)
  go_wp2_with fail
  go_loopg [9] st.length (fun kq v w' => ∃ k : Nat, k + kq = st.length ∧ v = .int .i64 k ∧ Aside0 (∀ j (hj : j < st.length), j < k → 0 ≤ st[j] ∧ st[j] ≤ 40) ∧ Aside0 (w'.heap[w.heap.size]? = some (.cells ([.int .i64 1, .int .i64 p, .int .i64 s, .int .i64 a, .int .i64 q, .slice A1 st.length c1, .slice A2 ps.length c2] : List Value).toArray 64 (0, 0))) ∧ Aside0 (Below w.heap.size w w'))
  case atStart => exact ⟨0, by omega, rfl, ⟨fun j hj h => by omega⟩, ⟨box_drewN _ _ _⟩, ⟨below_box_drewN _ _ _⟩⟩
  case round =>
    obtain ⟨k, hk, rfl, HA, HBK, HB⟩ := hrel
    by_cases hlt : k < st.length
    · obtain ⟨ad, rfl, hx0⟩ := Kd.at_int (Kd.C_below HXs.out HB.out) (k : Int) (by omega) (by omega)
      rw [rd_at _ _ hlt, Int.toNat_natCast] at hx0
      obtain ⟨x, hx⟩ : ∃ x, x = st[k] := ⟨_, rfl⟩
      rw [← hx] at hx0
      have z5 : wr.cell? ⟨w.heap.size, 5, none⟩ = some (.slice (some ad) st.length c1) := cell_of_blk HBK.out
      have HX0 := Aside0.mk hx
      clear hx
      by_cases hin : 0 ≤ x ∧ x ≤ 40
      · have G : Aside0 (true = decide (0 ≤ x ∧ x ≤ 40)) := ⟨(decide_eq_true hin).symm⟩
        have HIN := Aside0.mk hin
        clear hin
        go_wp2_with fail
        refine (refIn x 0 40 _ true G.out).mono ?_
        rintro e wr ⟨rfl, rfl⟩
        go_wp2_with fail
        go_roundg (st.length - (k + 1))
        case measure => omega
        case rel => exact ⟨k + 1, by omega, by go_num, ⟨fun j hj h => by
            rcases Nat.lt_or_ge j k with h1 | h1
            · exact HA.out j hj h1
            · obtain rfl : j = k := by omega
              rw [← HX0.out]
              exact HIN.out⟩, HBK, HB⟩
      · have G : Aside0 (false = decide (0 ≤ x ∧ x ≤ 40)) := ⟨(decide_eq_false hin).symm⟩
        obtain rfl := bool_no HR.out (fun h => by
          rcases h with h | h | h | h | h
          · exact hin (by rw [HX0.out]; exact h.2.2.2.2.2.1.2 _ (List.getElem_mem _))
          · exact absurd h.1 (by decide)
          · exact absurd h.1 (by decide)
          · exact absurd h.1 (by decide)
          · exact absurd h.1 (by decide))
        clear hin
        go_wp2_with fail
        refine (refIn x 0 40 _ false G.out).mono ?_
        rintro e wr ⟨rfl, rfl⟩
        go_wp2_with fail
        go_ret
        exact ⟨rfl, HB.out⟩
    · obtain rfl : k = st.length := by omega
      have HALL : Aside0 (AllIn st 0 40) := ⟨fun x hx => by
        obtain ⟨j, hj, rfl⟩ := List.getElem_of_mem hx
        exact HA.out j hj hj⟩
      clear HA
      by_cases hs : 0 ≤ s ∧ s ≤ 5
      case' neg =>
        have Gs : Aside0 (false = decide (0 ≤ s ∧ s ≤ 5)) := ⟨(decide_eq_false hs).symm⟩
        obtain rfl := bool_no HR.out (by omega)
        have z1 : wr.cell? ⟨w.heap.size, 1, none⟩ = _ := cell_of_blk HBK.out
        have z2 : wr.cell? ⟨w.heap.size, 2, none⟩ = _ := cell_of_blk HBK.out
        have z3 : wr.cell? ⟨w.heap.size, 3, none⟩ = _ := cell_of_blk HBK.out
        have z4 : wr.cell? ⟨w.heap.size, 4, none⟩ = _ := cell_of_blk HBK.out
        have z5 : wr.cell? ⟨w.heap.size, 5, none⟩ = some (.slice A1 st.length c1) := cell_of_blk HBK.out
        have z6 : wr.cell? ⟨w.heap.size, 6, none⟩ = some (.slice A2 ps.length c2) := cell_of_blk HBK.out
        go_wp2_with fail
        repeat' (first
          | (with_reducible refine (refIn s 0 5 _ false Gs.out).mono ?_; rintro e w1 ⟨rfl, rfl⟩; go_wp2_with fail))
        all_goals
          first
            | (go_ret; exact ⟨rfl, HB.out⟩)
            | (exfalso; omega)
      have Gs : Aside0 (true = decide (0 ≤ s ∧ s ≤ 5)) := ⟨(decide_eq_true hs).symm⟩
      by_cases hp : p = 0
      case' neg =>
        have gp : (p == 0) = false := by simpa using hp
        obtain rfl := bool_no HR.out (by omega)
        have z1 : wr.cell? ⟨w.heap.size, 1, none⟩ = _ := cell_of_blk HBK.out
        have z2 : wr.cell? ⟨w.heap.size, 2, none⟩ = _ := cell_of_blk HBK.out
        have z3 : wr.cell? ⟨w.heap.size, 3, none⟩ = _ := cell_of_blk HBK.out
        have z4 : wr.cell? ⟨w.heap.size, 4, none⟩ = _ := cell_of_blk HBK.out
        have z5 : wr.cell? ⟨w.heap.size, 5, none⟩ = some (.slice A1 st.length c1) := cell_of_blk HBK.out
        have z6 : wr.cell? ⟨w.heap.size, 6, none⟩ = some (.slice A2 ps.length c2) := cell_of_blk HBK.out
        go_wp2_with fail
        repeat' (first
          | (with_reducible refine (refIn s 0 5 _ true Gs.out).mono ?_; rintro e w1 ⟨rfl, rfl⟩; go_wp2_with fail))
        all_goals
          first
            | (go_ret; exact ⟨rfl, HB.out⟩)
            | (exfalso; omega)
      subst hp
      by_cases ha : 1 ≤ a ∧ a ≤ 3
      case' neg =>
        have Ga : Aside0 (false = decide (1 ≤ a ∧ a ≤ 3)) := ⟨(decide_eq_false ha).symm⟩
        obtain rfl := bool_no HR.out (by omega)
        have z1 : wr.cell? ⟨w.heap.size, 1, none⟩ = _ := cell_of_blk HBK.out
        have z2 : wr.cell? ⟨w.heap.size, 2, none⟩ = _ := cell_of_blk HBK.out
        have z3 : wr.cell? ⟨w.heap.size, 3, none⟩ = _ := cell_of_blk HBK.out
        have z4 : wr.cell? ⟨w.heap.size, 4, none⟩ = _ := cell_of_blk HBK.out
        have z5 : wr.cell? ⟨w.heap.size, 5, none⟩ = some (.slice A1 st.length c1) := cell_of_blk HBK.out
        have z6 : wr.cell? ⟨w.heap.size, 6, none⟩ = some (.slice A2 ps.length c2) := cell_of_blk HBK.out
        go_wp2_with fail
        repeat' (first
          | (with_reducible refine (refIn s 0 5 _ true Gs.out).mono ?_; rintro e w1 ⟨rfl, rfl⟩; go_wp2_with fail)
          | (with_reducible refine (refIn a 1 3 _ false Ga.out).mono ?_; rintro e w1 ⟨rfl, rfl⟩; go_wp2_with fail))
        all_goals
          first
            | (go_ret; exact ⟨rfl, HB.out⟩)
            | (exfalso; omega)
      have Ga : Aside0 (true = decide (1 ≤ a ∧ a ≤ 3)) := ⟨(decide_eq_true ha).symm⟩
      by_cases hq : q = 0
      case' neg =>
        have gq : (q == 0) = false := by simpa using hq
        obtain rfl := bool_no HR.out (by omega)
        have z1 : wr.cell? ⟨w.heap.size, 1, none⟩ = _ := cell_of_blk HBK.out
        have z2 : wr.cell? ⟨w.heap.size, 2, none⟩ = _ := cell_of_blk HBK.out
        have z3 : wr.cell? ⟨w.heap.size, 3, none⟩ = _ := cell_of_blk HBK.out
        have z4 : wr.cell? ⟨w.heap.size, 4, none⟩ = _ := cell_of_blk HBK.out
        have z5 : wr.cell? ⟨w.heap.size, 5, none⟩ = some (.slice A1 st.length c1) := cell_of_blk HBK.out
        have z6 : wr.cell? ⟨w.heap.size, 6, none⟩ = some (.slice A2 ps.length c2) := cell_of_blk HBK.out
        go_wp2_with fail
        repeat' (first
          | (with_reducible refine (refIn s 0 5 _ true Gs.out).mono ?_; rintro e w1 ⟨rfl, rfl⟩; go_wp2_with fail)
          | (with_reducible refine (refIn a 1 3 _ true Ga.out).mono ?_; rintro e w1 ⟨rfl, rfl⟩; go_wp2_with fail))
        all_goals
          first
            | (go_ret; exact ⟨rfl, HB.out⟩)
            | (exfalso; omega)
      subst hq
      by_cases h4 : st.length ≤ 4
      case' neg =>
        have g4 : ¬ (st.length : Int) ≤ 4 := by omega
        obtain rfl := bool_no HR.out (by omega)
        have z1 : wr.cell? ⟨w.heap.size, 1, none⟩ = _ := cell_of_blk HBK.out
        have z2 : wr.cell? ⟨w.heap.size, 2, none⟩ = _ := cell_of_blk HBK.out
        have z3 : wr.cell? ⟨w.heap.size, 3, none⟩ = _ := cell_of_blk HBK.out
        have z4 : wr.cell? ⟨w.heap.size, 4, none⟩ = _ := cell_of_blk HBK.out
        have z5 : wr.cell? ⟨w.heap.size, 5, none⟩ = some (.slice A1 st.length c1) := cell_of_blk HBK.out
        have z6 : wr.cell? ⟨w.heap.size, 6, none⟩ = some (.slice A2 ps.length c2) := cell_of_blk HBK.out
        go_wp2_with fail
        repeat' (first
          | (with_reducible refine (refIn s 0 5 _ true Gs.out).mono ?_; rintro e w1 ⟨rfl, rfl⟩; go_wp2_with fail)
          | (with_reducible refine (refIn a 1 3 _ true Ga.out).mono ?_; rintro e w1 ⟨rfl, rfl⟩; go_wp2_with fail))
        all_goals
          first
            | (go_ret; exact ⟨rfl, HB.out⟩)
            | (exfalso; omega)
      have g4 : (st.length : Int) ≤ 4 := by omega
      by_cases hm : 0 < ps.length
      · have gm : ((ps.length : Int) == 0) = false := by simp; intro h; rw [h] at hm; simp at hm
        obtain rfl := bool_no HR.out (by omega)
        have Hmx := Aside0.mk hm
        clear hm
        have z1 : wr.cell? ⟨w.heap.size, 1, none⟩ = _ := cell_of_blk HBK.out
        have z2 : wr.cell? ⟨w.heap.size, 2, none⟩ = _ := cell_of_blk HBK.out
        have z3 : wr.cell? ⟨w.heap.size, 3, none⟩ = _ := cell_of_blk HBK.out
        have z4 : wr.cell? ⟨w.heap.size, 4, none⟩ = _ := cell_of_blk HBK.out
        have z5 : wr.cell? ⟨w.heap.size, 5, none⟩ = some (.slice A1 st.length c1) := cell_of_blk HBK.out
        have z6 : wr.cell? ⟨w.heap.size, 6, none⟩ = some (.slice A2 ps.length c2) := cell_of_blk HBK.out
        go_wp2_with fail
        repeat' (first
          | (with_reducible refine (refIn s 0 5 _ true Gs.out).mono ?_; rintro e w1 ⟨rfl, rfl⟩; go_wp2_with fail)
          | (with_reducible refine (refIn a 1 3 _ true Ga.out).mono ?_; rintro e w1 ⟨rfl, rfl⟩; go_wp2_with fail))
        all_goals
          first
            | (go_ret; exact ⟨rfl, HB.out⟩)
            | (exfalso; omega)
      have gm : ((ps.length : Int) == 0) = true := by simp; exact List.eq_nil_of_length_eq_zero (by omega)
      obtain rfl := HR.out.2 (.inl ⟨by trivial, rfl, hs, ha, rfl, ⟨h4, HALL.out⟩, by omega⟩)
      have z1 : wr.cell? ⟨w.heap.size, 1, none⟩ = _ := cell_of_blk HBK.out
      have z2 : wr.cell? ⟨w.heap.size, 2, none⟩ = _ := cell_of_blk HBK.out
      have z3 : wr.cell? ⟨w.heap.size, 3, none⟩ = _ := cell_of_blk HBK.out
      have z4 : wr.cell? ⟨w.heap.size, 4, none⟩ = _ := cell_of_blk HBK.out
      have z5 : wr.cell? ⟨w.heap.size, 5, none⟩ = some (.slice A1 st.length c1) := cell_of_blk HBK.out
      have z6 : wr.cell? ⟨w.heap.size, 6, none⟩ = some (.slice A2 ps.length c2) := cell_of_blk HBK.out
      go_wp2_with fail
      repeat' (first
        | (with_reducible refine (refIn s 0 5 _ true Gs.out).mono ?_; rintro e w1 ⟨rfl, rfl⟩; go_wp2_with fail)
        | (with_reducible refine (refIn a 1 3 _ true Ga.out).mono ?_; rintro e w1 ⟨rfl, rfl⟩; go_wp2_with fail))
      all_goals
        first
          | (go_ret; exact ⟨rfl, HB.out⟩)
          | (exfalso; omega)
set_option maxRecDepth 100000 in
set_option maxHeartbeats 6400000 in
theorem refMayRec_2 (p s a q : Int) (st : List Int) (ps : List PairD) (A1 A2 : Option Addr) (c1 c2 : Nat) (w : World) (hx : RecC w ⟨2, p, s, a, q, st, ps⟩ A1 A2 c1 c2) (r : Bool) (hr : r = true ↔ MayR ⟨2, p, s, a, q, st, ps⟩) :
    Calls Try.prog 37 #[recV ⟨2, p, s, a, q, st, ps⟩ (.slice A1 st.length c1) (.slice A2 ps.length c2)] w fun e w' => e = .returned (.bool r) ∧ Below w.heap.size w w' := by
  change r = true ↔ MayP 2 p s a q st.length ps.length (st.length ≤ 4 ∧ AllIn st 0 40) (SetMay st) (PairsMay ps) at hr
  unfold MayP at hr
  have HR := Aside0.mk hr
  have HXs : Aside0 (Kd.C kI w A1 st.length st) := ⟨hx.s⟩
  have HXp : Aside0 (Kd.C kPair w A2 ps.length ps) := ⟨hx.p⟩
  have hm0 : st.length ≤ 9223372036854775807 := Kd.C_max hx.s
  clear hr hx
  unfold recV
  go_enter Try.func37, Try.ntmps37
  go_wp2_with fail
  go_quiet (fail)
  go_wp2_with fail
  go_quiet (fail)
  by_cases hs : s = 0
  case' neg =>
    have gs : (s == 0) = false := by simpa using hs
    obtain rfl := bool_no HR.out (by omega)
    go_wp2_with fail
    all_goals
      first
        | (go_ret; exact ⟨rfl, below_box_drewN _ _ _⟩)
        | (exfalso; omega)
  subst hs
  by_cases hp : p = 0
  case' neg =>
    have gp : (p == 0) = false := by simpa using hp
    obtain rfl := bool_no HR.out (by omega)
    go_wp2_with fail
    all_goals
      first
        | (go_ret; exact ⟨rfl, below_box_drewN _ _ _⟩)
        | (exfalso; omega)
  subst hp
  by_cases ha : a = 0
  case' neg =>
    have ga : (a == 0) = false := by simpa using ha
    obtain rfl := bool_no HR.out (by omega)
    go_wp2_with fail
    all_goals
      first
        | (go_ret; exact ⟨rfl, below_box_drewN _ _ _⟩)
        | (exfalso; omega)
  subst ha
  by_cases hq : q = 0
  case' neg =>
    have gq : (q == 0) = false := by simpa using hq
    obtain rfl := bool_no HR.out (by omega)
    go_wp2_with fail
    all_goals
      first
        | (go_ret; exact ⟨rfl, below_box_drewN _ _ _⟩)
        | (exfalso; omega)
  subst hq
  by_cases hn : 0 < st.length
  · have gn : ((st.length : Int) == 0) = false := by simp; intro h; rw [h] at hn; simp at hn
    obtain rfl := bool_no HR.out (by omega)
    have Hnx := Aside0.mk hn
    clear hn
    go_wp2_with fail
    all_goals
      first
        | (go_ret; exact ⟨rfl, below_box_drewN _ _ _⟩)
        | (exfalso; omega)
  have gn : ((st.length : Int) == 0) = true := by simp; exact List.eq_nil_of_length_eq_zero (by omega)
  by_cases hm : 0 < ps.length
  · have gm : ((ps.length : Int) == 0) = false := by simp; intro h; rw [h] at hm; simp at hm
    obtain rfl := bool_no HR.out (by omega)
    have Hmx := Aside0.mk hm
    clear hm
    go_wp2_with fail
    all_goals
      first
        | (go_ret; exact ⟨rfl, below_box_drewN _ _ _⟩)
        | (exfalso; omega)
  have gm : ((ps.length : Int) == 0) = true := by simp; exact List.eq_nil_of_length_eq_zero (by omega)
  obtain rfl := HR.out.2 (.inr (.inl ⟨.inl (by trivial), rfl, rfl, rfl, rfl, by omega, by omega⟩))
  go_wp2_with fail
  all_goals
    first
      | (go_ret; exact ⟨rfl, below_box_drewN _ _ _⟩)
      | (exfalso; omega)
set_option maxRecDepth 100000 in
set_option maxHeartbeats 6400000 in
theorem refMayRec_3 (p s a q : Int) (st : List Int) (ps : List PairD) (A1 A2 : Option Addr) (c1 c2 : Nat) (w : World) (hx : RecC w ⟨3, p, s, a, q, st, ps⟩ A1 A2 c1 c2) (r : Bool) (hr : r = true ↔ MayR ⟨3, p, s, a, q, st, ps⟩) :
    Calls Try.prog 37 #[recV ⟨3, p, s, a, q, st, ps⟩ (.slice A1 st.length c1) (.slice A2 ps.length c2)] w fun e w' => e = .returned (.bool r) ∧ Below w.heap.size w w' := by
  change r = true ↔ MayP 3 p s a q st.length ps.length (st.length ≤ 4 ∧ AllIn st 0 40) (SetMay st) (PairsMay ps) at hr
  unfold MayP at hr
  have HR := Aside0.mk hr
  have HXs : Aside0 (Kd.C kI w A1 st.length st) := ⟨hx.s⟩
  have HXp : Aside0 (Kd.C kPair w A2 ps.length ps) := ⟨hx.p⟩
  have hm0 : st.length ≤ 9223372036854775807 := Kd.C_max hx.s
  clear hr hx
  unfold recV
  go_enter Try.func37, Try.ntmps37
  go_wp2_with fail
  go_quiet (fail)
  go_wp2_with fail
  go_quiet (fail)
  by_cases ha : a = 0
  · subst ha
    by_cases hs : 0 ≤ s ∧ s ≤ 5
    case' neg =>
      have Gs : Aside0 (false = decide (0 ≤ s ∧ s ≤ 5)) := ⟨(decide_eq_false hs).symm⟩
      obtain rfl := bool_no HR.out (by omega)
      go_wp2_with fail
      repeat' (first
        | (with_reducible refine (refIn s 0 5 _ false Gs.out).mono ?_; rintro e w1 ⟨rfl, rfl⟩; go_wp2_with fail))
      all_goals
        first
          | (go_ret; exact ⟨rfl, below_box_drewN _ _ _⟩)
          | (exfalso; omega)
    have Gs : Aside0 (true = decide (0 ≤ s ∧ s ≤ 5)) := ⟨(decide_eq_true hs).symm⟩
    by_cases hp : p = 0
    case' neg =>
      have gp : (p == 0) = false := by simpa using hp
      obtain rfl := bool_no HR.out (by omega)
      go_wp2_with fail
      repeat' (first
        | (with_reducible refine (refIn s 0 5 _ true Gs.out).mono ?_; rintro e w1 ⟨rfl, rfl⟩; go_wp2_with fail))
      all_goals
        first
          | (go_ret; exact ⟨rfl, below_box_drewN _ _ _⟩)
          | (exfalso; omega)
    subst hp
    by_cases hq : 1 ≤ q ∧ q ≤ 6
    case' neg =>
      have Gq : Aside0 (false = decide (1 ≤ q ∧ q ≤ 6)) := ⟨(decide_eq_false hq).symm⟩
      obtain rfl := bool_no HR.out (by omega)
      go_wp2_with fail
      repeat' (first
        | (with_reducible refine (refIn s 0 5 _ true Gs.out).mono ?_; rintro e w1 ⟨rfl, rfl⟩; go_wp2_with fail)
        | (with_reducible refine (refIn q 1 6 _ false Gq.out).mono ?_; rintro e w1 ⟨rfl, rfl⟩; go_wp2_with fail))
      all_goals
        first
          | (go_ret; exact ⟨rfl, below_box_drewN _ _ _⟩)
          | (exfalso; omega)
    have Gq : Aside0 (true = decide (1 ≤ q ∧ q ≤ 6)) := ⟨(decide_eq_true hq).symm⟩
    by_cases hn : 0 < st.length
    · have gn : ((st.length : Int) == 0) = false := by simp; intro h; rw [h] at hn; simp at hn
      obtain rfl := bool_no HR.out (by omega)
      have Hnx := Aside0.mk hn
      clear hn
      go_wp2_with fail
      repeat' (first
        | (with_reducible refine (refIn s 0 5 _ true Gs.out).mono ?_; rintro e w1 ⟨rfl, rfl⟩; go_wp2_with fail)
        | (with_reducible refine (refIn q 1 6 _ true Gq.out).mono ?_; rintro e w1 ⟨rfl, rfl⟩; go_wp2_with fail))
      all_goals
        first
          | (go_ret; exact ⟨rfl, below_box_drewN _ _ _⟩)
          | (exfalso; omega)
    have gn : ((st.length : Int) == 0) = true := by simp; exact List.eq_nil_of_length_eq_zero (by omega)
    by_cases hm : 0 < ps.length
    · have gm : ((ps.length : Int) == 0) = false := by simp; intro h; rw [h] at hm; simp at hm
      obtain rfl := bool_no HR.out (by omega)
      have Hmx := Aside0.mk hm
      clear hm
      go_wp2_with fail
      repeat' (first
        | (with_reducible refine (refIn s 0 5 _ true Gs.out).mono ?_; rintro e w1 ⟨rfl, rfl⟩; go_wp2_with fail)
        | (with_reducible refine (refIn q 1 6 _ true Gq.out).mono ?_; rintro e w1 ⟨rfl, rfl⟩; go_wp2_with fail))
      all_goals
        first
          | (go_ret; exact ⟨rfl, below_box_drewN _ _ _⟩)
          | (exfalso; omega)
    have gm : ((ps.length : Int) == 0) = true := by simp; exact List.eq_nil_of_length_eq_zero (by omega)
    obtain rfl := HR.out.2 (.inr (.inr (.inl ⟨by trivial, ⟨hq, by omega⟩, by omega, by omega⟩)))
    go_wp2_with fail
    repeat' (first
      | (with_reducible refine (refIn s 0 5 _ true Gs.out).mono ?_; rintro e w1 ⟨rfl, rfl⟩; go_wp2_with fail)
      | (with_reducible refine (refIn q 1 6 _ true Gq.out).mono ?_; rintro e w1 ⟨rfl, rfl⟩; go_wp2_with fail))
    all_goals
      first
        | (go_ret; exact ⟨rfl, below_box_drewN _ _ _⟩)
        | (exfalso; omega)
  · by_cases ha1 : a = 1
    · subst ha1
      by_cases hp : 0 ≤ p ∧ p ≤ 3
      case' neg =>
        have Gp : Aside0 (false = decide (0 ≤ p ∧ p ≤ 3)) := ⟨(decide_eq_false hp).symm⟩
        obtain rfl := bool_no HR.out (by omega)
        go_wp2_with fail
        repeat' (first
          | (with_reducible refine (refIn p 0 3 _ false Gp.out).mono ?_; rintro e w1 ⟨rfl, rfl⟩; go_wp2_with fail))
        all_goals
          first
            | (go_ret; exact ⟨rfl, below_box_drewN _ _ _⟩)
            | (exfalso; omega)
      have Gp : Aside0 (true = decide (0 ≤ p ∧ p ≤ 3)) := ⟨(decide_eq_true hp).symm⟩
      by_cases hs : s = 0
      case' neg =>
        have gs : (s == 0) = false := by simpa using hs
        obtain rfl := bool_no HR.out (by omega)
        go_wp2_with fail
        repeat' (first
          | (with_reducible refine (refIn p 0 3 _ true Gp.out).mono ?_; rintro e w1 ⟨rfl, rfl⟩; go_wp2_with fail))
        all_goals
          first
            | (go_ret; exact ⟨rfl, below_box_drewN _ _ _⟩)
            | (exfalso; omega)
      subst hs
      by_cases hq : 1 ≤ q ∧ q ≤ 6
      case' neg =>
        have Gq : Aside0 (false = decide (1 ≤ q ∧ q ≤ 6)) := ⟨(decide_eq_false hq).symm⟩
        obtain rfl := bool_no HR.out (by omega)
        go_wp2_with fail
        repeat' (first
          | (with_reducible refine (refIn p 0 3 _ true Gp.out).mono ?_; rintro e w1 ⟨rfl, rfl⟩; go_wp2_with fail)
          | (with_reducible refine (refIn q 1 6 _ false Gq.out).mono ?_; rintro e w1 ⟨rfl, rfl⟩; go_wp2_with fail))
        all_goals
          first
            | (go_ret; exact ⟨rfl, below_box_drewN _ _ _⟩)
            | (exfalso; omega)
      have Gq : Aside0 (true = decide (1 ≤ q ∧ q ≤ 6)) := ⟨(decide_eq_true hq).symm⟩
      by_cases hn : 0 < st.length
      · have gn : ((st.length : Int) == 0) = false := by simp; intro h; rw [h] at hn; simp at hn
        obtain rfl := bool_no HR.out (by omega)
        have Hnx := Aside0.mk hn
        clear hn
        go_wp2_with fail
        repeat' (first
          | (with_reducible refine (refIn p 0 3 _ true Gp.out).mono ?_; rintro e w1 ⟨rfl, rfl⟩; go_wp2_with fail)
          | (with_reducible refine (refIn q 1 6 _ true Gq.out).mono ?_; rintro e w1 ⟨rfl, rfl⟩; go_wp2_with fail))
        all_goals
          first
            | (go_ret; exact ⟨rfl, below_box_drewN _ _ _⟩)
            | (exfalso; omega)
      have gn : ((st.length : Int) == 0) = true := by simp; exact List.eq_nil_of_length_eq_zero (by omega)
      by_cases hm : 0 < ps.length
      · have gm : ((ps.length : Int) == 0) = false := by simp; intro h; rw [h] at hm; simp at hm
        obtain rfl := bool_no HR.out (by omega)
        have Hmx := Aside0.mk hm
        clear hm
        go_wp2_with fail
        repeat' (first
          | (with_reducible refine (refIn p 0 3 _ true Gp.out).mono ?_; rintro e w1 ⟨rfl, rfl⟩; go_wp2_with fail)
          | (with_reducible refine (refIn q 1 6 _ true Gq.out).mono ?_; rintro e w1 ⟨rfl, rfl⟩; go_wp2_with fail))
        all_goals
          first
            | (go_ret; exact ⟨rfl, below_box_drewN _ _ _⟩)
            | (exfalso; omega)
      have gm : ((ps.length : Int) == 0) = true := by simp; exact List.eq_nil_of_length_eq_zero (by omega)
      obtain rfl := HR.out.2 (.inr (.inr (.inl ⟨by trivial, ⟨hq, by omega⟩, by omega, by omega⟩)))
      go_wp2_with fail
      repeat' (first
        | (with_reducible refine (refIn p 0 3 _ true Gp.out).mono ?_; rintro e w1 ⟨rfl, rfl⟩; go_wp2_with fail)
        | (with_reducible refine (refIn q 1 6 _ true Gq.out).mono ?_; rintro e w1 ⟨rfl, rfl⟩; go_wp2_with fail))
      all_goals
        first
          | (go_ret; exact ⟨rfl, below_box_drewN _ _ _⟩)
          | (exfalso; omega)
    · have ga : (a == 0) = false := by simpa using ha
      have ga1 : (a == 1) = false := by simpa using ha1
      obtain rfl := bool_no HR.out (by omega)
      go_wp2_with fail
      all_goals
        first
          | (go_ret; exact ⟨rfl, below_box_drewN _ _ _⟩)
          | (exfalso; omega)
set_option maxRecDepth 100000 in
set_option maxHeartbeats 6400000 in
theorem refMayRec_4 (p s a q : Int) (st : List Int) (ps : List PairD) (A1 A2 : Option Addr) (c1 c2 : Nat) (w : World) (hx : RecC w ⟨4, p, s, a, q, st, ps⟩ A1 A2 c1 c2) (r : Bool) (hr : r = true ↔ MayR ⟨4, p, s, a, q, st, ps⟩) :
    Calls Try.prog 37 #[recV ⟨4, p, s, a, q, st, ps⟩ (.slice A1 st.length c1) (.slice A2 ps.length c2)] w fun e w' => e = .returned (.bool r) ∧ Below w.heap.size w w' := by
  change r = true ↔ MayP 4 p s a q st.length ps.length (st.length ≤ 4 ∧ AllIn st 0 40) (SetMay st) (PairsMay ps) at hr
  unfold MayP at hr
  have HR := Aside0.mk hr
  have HXs : Aside0 (Kd.C kI w A1 st.length st) := ⟨hx.s⟩
  have HXp : Aside0 (Kd.C kPair w A2 ps.length ps) := ⟨hx.p⟩
  have hm0 : st.length ≤ 9223372036854775807 := Kd.C_max hx.s
  clear hr hx
  unfold recV
  go_enter Try.func37, Try.ntmps37
  go_wp2_with fail
  go_quiet (fail)
  go_wp2_with fail
  go_quiet (fail)
  by_cases hp : 0 ≤ p ∧ p ≤ 3
  case' neg =>
    have Gp : Aside0 (false = decide (0 ≤ p ∧ p ≤ 3)) := ⟨(decide_eq_false hp).symm⟩
    obtain rfl := bool_no HR.out (by omega)
    go_wp2_with fail
    repeat' (first
      | (with_reducible refine (refIn p 0 3 _ false Gp.out).mono ?_; rintro e w1 ⟨rfl, rfl⟩; go_wp2_with fail))
    all_goals
      first
        | (go_ret; exact ⟨rfl, below_box_drewN _ _ _⟩)
        | (exfalso; omega)
  have Gp : Aside0 (true = decide (0 ≤ p ∧ p ≤ 3)) := ⟨(decide_eq_true hp).symm⟩
  by_cases hs : 0 ≤ s ∧ s ≤ 5
  case' neg =>
    have Gs : Aside0 (false = decide (0 ≤ s ∧ s ≤ 5)) := ⟨(decide_eq_false hs).symm⟩
    obtain rfl := bool_no HR.out (by omega)
    go_wp2_with fail
    repeat' (first
      | (with_reducible refine (refIn p 0 3 _ true Gp.out).mono ?_; rintro e w1 ⟨rfl, rfl⟩; go_wp2_with fail)
      | (with_reducible refine (refIn s 0 5 _ false Gs.out).mono ?_; rintro e w1 ⟨rfl, rfl⟩; go_wp2_with fail))
    all_goals
      first
        | (go_ret; exact ⟨rfl, below_box_drewN _ _ _⟩)
        | (exfalso; omega)
  have Gs : Aside0 (true = decide (0 ≤ s ∧ s ≤ 5)) := ⟨(decide_eq_true hs).symm⟩
  by_cases ha : 1 ≤ a ∧ a ≤ 3
  case' neg =>
    have Ga : Aside0 (false = decide (1 ≤ a ∧ a ≤ 3)) := ⟨(decide_eq_false ha).symm⟩
    obtain rfl := bool_no HR.out (by omega)
    go_wp2_with fail
    repeat' (first
      | (with_reducible refine (refIn p 0 3 _ true Gp.out).mono ?_; rintro e w1 ⟨rfl, rfl⟩; go_wp2_with fail)
      | (with_reducible refine (refIn s 0 5 _ true Gs.out).mono ?_; rintro e w1 ⟨rfl, rfl⟩; go_wp2_with fail)
      | (with_reducible refine (refIn a 1 3 _ false Ga.out).mono ?_; rintro e w1 ⟨rfl, rfl⟩; go_wp2_with fail))
    all_goals
      first
        | (go_ret; exact ⟨rfl, below_box_drewN _ _ _⟩)
        | (exfalso; omega)
  have Ga : Aside0 (true = decide (1 ≤ a ∧ a ≤ 3)) := ⟨(decide_eq_true ha).symm⟩
  by_cases hq : q = 0
  case' neg =>
    have gq : (q == 0) = false := by simpa using hq
    obtain rfl := bool_no HR.out (by omega)
    go_wp2_with fail
    repeat' (first
      | (with_reducible refine (refIn p 0 3 _ true Gp.out).mono ?_; rintro e w1 ⟨rfl, rfl⟩; go_wp2_with fail)
      | (with_reducible refine (refIn s 0 5 _ true Gs.out).mono ?_; rintro e w1 ⟨rfl, rfl⟩; go_wp2_with fail)
      | (with_reducible refine (refIn a 1 3 _ true Ga.out).mono ?_; rintro e w1 ⟨rfl, rfl⟩; go_wp2_with fail))
    all_goals
      first
        | (go_ret; exact ⟨rfl, below_box_drewN _ _ _⟩)
        | (exfalso; omega)
  subst hq
  by_cases hn : 0 < st.length
  · have gn : ((st.length : Int) == 0) = false := by simp; intro h; rw [h] at hn; simp at hn
    obtain rfl := bool_no HR.out (by omega)
    have Hnx := Aside0.mk hn
    clear hn
    go_wp2_with fail
    repeat' (first
      | (with_reducible refine (refIn p 0 3 _ true Gp.out).mono ?_; rintro e w1 ⟨rfl, rfl⟩; go_wp2_with fail)
      | (with_reducible refine (refIn s 0 5 _ true Gs.out).mono ?_; rintro e w1 ⟨rfl, rfl⟩; go_wp2_with fail)
      | (with_reducible refine (refIn a 1 3 _ true Ga.out).mono ?_; rintro e w1 ⟨rfl, rfl⟩; go_wp2_with fail))
    all_goals
      first
        | (go_ret; exact ⟨rfl, below_box_drewN _ _ _⟩)
        | (exfalso; omega)
  have gn : ((st.length : Int) == 0) = true := by simp; exact List.eq_nil_of_length_eq_zero (by omega)
  by_cases h40 : ps.length ≤ 40
  case' neg =>
    have g40 : ¬ (ps.length : Int) ≤ 40 := by omega
    obtain rfl := bool_no HR.out (by omega)
    go_wp2_with fail
    repeat' (first
      | (with_reducible refine (refIn p 0 3 _ true Gp.out).mono ?_; rintro e w1 ⟨rfl, rfl⟩; go_wp2_with fail)
      | (with_reducible refine (refIn s 0 5 _ true Gs.out).mono ?_; rintro e w1 ⟨rfl, rfl⟩; go_wp2_with fail)
      | (with_reducible refine (refIn a 1 3 _ true Ga.out).mono ?_; rintro e w1 ⟨rfl, rfl⟩; go_wp2_with fail))
    all_goals
      first
        | (go_ret; exact ⟨rfl, below_box_drewN _ _ _⟩)
        | (exfalso; omega)
  have g40 : (ps.length : Int) ≤ 40 := by omega
  have HO : Aside0 (r = true ↔ PairsMay ps) := ⟨by
    rw [HR.out]
    constructor
    · intro h
      rcases h with h | h | h | h | h
      · exact absurd h.1 (by decide)
      · exact absurd h.1 (by decide)
      · exact absurd h.1 (by decide)
      · exact h.2.2.2.2.2.2.2
      · exact absurd h.1 (by decide)
    · exact fun h => .inr (.inr (.inr (.inl ⟨by trivial, hp, hs, ha, by trivial, by omega, by omega, h⟩)))⟩
  have HO2 : Aside0 (r = decide (PairsMay ps)) := ⟨by cases r; exact (decide_eq_false (fun h => by cases HO.out.2 h)).symm; exact (decide_eq_true (HO.out.1 rfl)).symm⟩
  go_wp2_with fail
  repeat' (first
    | (with_reducible refine (refIn p 0 3 _ true Gp.out).mono ?_; rintro e w1 ⟨rfl, rfl⟩; go_wp2_with fail)
    | (with_reducible refine (refIn s 0 5 _ true Gs.out).mono ?_; rintro e w1 ⟨rfl, rfl⟩; go_wp2_with fail)
    | (with_reducible refine (refIn a 1 3 _ true Ga.out).mono ?_; rintro e w1 ⟨rfl, rfl⟩; go_wp2_with fail)
    | (with_reducible refine (refPairMay A2 c2 ps _ (Kd.C_below HXp.out (below_box_drewN _ _ _)) r HO2.out).mono ?_; rintro e w1 ⟨rfl, hb1⟩; have HB1 := Aside0.mk hb1; clear hb1; go_wp2_with fail))
  all_goals
    first
      | (go_ret; exact ⟨rfl, two_andj _ _ _ (below_box_drewN _ _ _) HB1.out⟩)
      | (exfalso; omega)
set_option maxRecDepth 100000 in
set_option maxHeartbeats 6400000 in
theorem refMayRec_5 (p s a q : Int) (st : List Int) (ps : List PairD) (A1 A2 : Option Addr) (c1 c2 : Nat) (w : World) (hx : RecC w ⟨5, p, s, a, q, st, ps⟩ A1 A2 c1 c2) (r : Bool) (hr : r = true ↔ MayR ⟨5, p, s, a, q, st, ps⟩) :
    Calls Try.prog 37 #[recV ⟨5, p, s, a, q, st, ps⟩ (.slice A1 st.length c1) (.slice A2 ps.length c2)] w fun e w' => e = .returned (.bool r) ∧ Below w.heap.size w w' := by
  change r = true ↔ MayP 5 p s a q st.length ps.length (st.length ≤ 4 ∧ AllIn st 0 40) (SetMay st) (PairsMay ps) at hr
  unfold MayP at hr
  have HR := Aside0.mk hr
  have HXs : Aside0 (Kd.C kI w A1 st.length st) := ⟨hx.s⟩
  have HXp : Aside0 (Kd.C kPair w A2 ps.length ps) := ⟨hx.p⟩
  have hm0 : st.length ≤ 9223372036854775807 := Kd.C_max hx.s
  clear hr hx
  unfold recV
  go_enter Try.func37, Try.ntmps37
  go_wp2_with fail
  go_quiet (fail)
  go_wp2_with fail
  go_quiet (fail)
  go_wp2_with fail
  go_loopg [11] st.length (fun kq v w' => ∃ k : Nat, k + kq = st.length ∧ v = .int .i64 k ∧ Aside0 (∀ j, j < k → (0 ≤ st.getD j 0 ∧ st.getD j 0 ≤ 5) ∧ (0 < j → st.getD (j - 1) 0 < st.getD j 0)) ∧ Aside0 (w'.heap[w.heap.size]? = some (.cells ([.int .i64 5, .int .i64 p, .int .i64 s, .int .i64 a, .int .i64 q, .slice A1 st.length c1, .slice A2 ps.length c2] : List Value).toArray 64 (0, 0))) ∧ Aside0 (Below w.heap.size w w'))
  case atStart => exact ⟨0, by omega, rfl, ⟨fun j h => by omega⟩, ⟨box_drewN _ _ _⟩, ⟨below_box_drewN _ _ _⟩⟩
  case round =>
    obtain ⟨k, hk, rfl, HA, HBK, HB⟩ := hrel
    by_cases hlt : k < st.length
    · obtain ⟨ad, rfl, hx0⟩ := Kd.at_int (Kd.C_below HXs.out HB.out) (k : Int) (by omega) (by omega)
      rw [rd_at _ _ hlt, Int.toNat_natCast] at hx0
      obtain ⟨x, hx⟩ : ∃ x, x = st[k] := ⟨_, rfl⟩
      rw [← hx] at hx0
      have z5 : wr.cell? ⟨w.heap.size, 5, none⟩ = some (.slice (some ad) st.length c1) := cell_of_blk HBK.out
      have HX0 : Aside0 (st.getD k 0 = x) := ⟨by rw [hx]; simp [List.getD_eq_getElem?_getD, hlt]⟩
      clear hx
      have hi0 : (0 : Int) ≤ k := by omega
      have hi1 : (k : Int) < st.length := by omega
      by_cases hin : 0 ≤ x ∧ x ≤ 5
      · have HIN : Aside0 (∀ w, Calls Try.prog 66 #[.int .i64 x, .int .i64 0, .int .i64 5] w fun e w' => e = .returned (.bool true) ∧ w' = w) := ⟨fun w => refIn x 0 5 w true (decide_eq_true hin).symm⟩
        have HIN2 := Aside0.mk hin
        by_cases hk0 : k = 0
        · have hd0 : decide ((0 : Int) < k) = false := decide_eq_false (by omega)
          have hd1 : decide (0 < k) = false := decide_eq_false (by omega)
          have HK0 := Aside0.mk hk0
          clear hin hk0
          go_wp2_with fail
          go_quiet ((go_at_call 66; exact (HIN.out _).mono (fun e w' h => ⟨h.1, _, h.2⟩)))
          go_wp2_with fail
          go_roundg (st.length - (k + 1))
          case measure => omega
          case rel => exact ⟨k + 1, by omega, by go_num, ⟨fun j h => by
              have hk0 := HK0.out
              obtain rfl : j = k := by omega
              rw [HX0.out]
              exact ⟨HIN2.out, fun h0 => by omega⟩⟩, ⟨(blk_drewN _ _ HBK.out)⟩, ⟨pw_below_drewN HB.out _⟩⟩
        · have hd0 : (0 : Int) < k := by omega
          have hd1 : 0 < k := by omega
          obtain ⟨ad', e', hx1⟩ := Kd.at_int (Kd.C_below HXs.out HB.out) ((k - 1 : Nat) : Int) (by omega) (by omega)
          cases e'
          rw [rd_at _ _ (show k - 1 < st.length by omega), Int.toNat_natCast] at hx1
          obtain ⟨y, hy⟩ : ∃ y, y = st[k - 1]'(by omega) := ⟨_, rfl⟩
          rw [← hy] at hx1
          have HY : Aside0 (st.getD (k - 1) 0 = y) := ⟨by rw [hy]; simp [List.getD_eq_getElem?_getD, show k - 1 < st.length by omega]⟩
          have hw1 : IntKind.i64.wrap ((k : Int) - 1) = (k : Int) - 1 := IntWalk.i64_in _ (by omega)
          have hw2 : ((k : Int) - 1).toNat = k - 1 := by omega
          have hw3 : (0 : Int) ≤ (k : Int) - 1 := by omega
          have hw4 : (k : Int) - 1 < st.length := by omega
          by_cases hge : x ≤ y
          · skip
            obtain rfl := bool_no HR.out (fun h => by
              rcases h with h | h | h | h | h
              · exact absurd h.1 (by decide)
              · exact absurd h.1 (by decide)
              · exact absurd h.1 (by decide)
              · exact absurd h.1 (by decide)
              · have h1 := h.2.2.2.2.2.1 k hlt
                have h2 := h1.2 hd1; rw [HX0.out, HY.out] at h2; omega)
            clear hin hk0 hy
            go_wp2_with fail
            go_quiet ((go_at_call 66; exact (HIN.out _).mono (fun e w' h => ⟨h.1, _, h.2⟩)))
            clear hw1 hw2
            go_wp2_with fail
            go_ret
            exact ⟨rfl, pw_below_drewN HB.out _⟩
          · have hgb : decide (x ≤ y) = false := decide_eq_false hge
            have HGE := Aside0.mk hge
            clear hin hk0 hy hge
            go_wp2_with fail
            go_quiet ((go_at_call 66; exact (HIN.out _).mono (fun e w' h => ⟨h.1, _, h.2⟩)))
            clear hw1 hw2
            go_wp2_with fail
            go_roundg (st.length - (k + 1))
            case measure => omega
            case rel => exact ⟨k + 1, by omega, by go_num, ⟨fun j h => by
                rcases Nat.lt_or_ge j k with h1 | h1
                · exact HA.out j h1
                · obtain rfl : j = k := by omega
                  rw [HX0.out, HY.out]
                  have := HGE.out
                  exact ⟨HIN2.out, fun h0 => by omega⟩⟩, ⟨(blk_drewN _ _ HBK.out)⟩, ⟨pw_below_drewN HB.out _⟩⟩
      · have HIN : Aside0 (∀ w, Calls Try.prog 66 #[.int .i64 x, .int .i64 0, .int .i64 5] w fun e w' => e = .returned (.bool false) ∧ w' = w) := ⟨fun w => refIn x 0 5 w false (decide_eq_false hin).symm⟩
        obtain rfl := bool_no HR.out (fun h => by
          rcases h with h | h | h | h | h
          · exact absurd h.1 (by decide)
          · exact absurd h.1 (by decide)
          · exact absurd h.1 (by decide)
          · exact absurd h.1 (by decide)
          · have h1 := h.2.2.2.2.2.1 k hlt
            have h2 := h1.1; rw [HX0.out] at h2; exact hin h2)
        clear hin
        go_wp2_with fail
        go_quiet ((go_at_call 66; exact (HIN.out _).mono (fun e w' h => ⟨h.1, _, h.2⟩)))
        go_wp2_with fail
        go_ret
        exact ⟨rfl, pw_below_drewN HB.out _⟩
    · obtain rfl : k = st.length := by omega
      have HALL : Aside0 (SetMay st) := ⟨fun j hj => HA.out j hj⟩
      clear HA
      by_cases hp : 0 ≤ p ∧ p ≤ 3
      case' neg =>
        have Gp : Aside0 (false = decide (0 ≤ p ∧ p ≤ 3)) := ⟨(decide_eq_false hp).symm⟩
        obtain rfl := bool_no HR.out (by omega)
        have z1 : wr.cell? ⟨w.heap.size, 1, none⟩ = _ := cell_of_blk HBK.out
        have z2 : wr.cell? ⟨w.heap.size, 2, none⟩ = _ := cell_of_blk HBK.out
        have z3 : wr.cell? ⟨w.heap.size, 3, none⟩ = _ := cell_of_blk HBK.out
        have z4 : wr.cell? ⟨w.heap.size, 4, none⟩ = _ := cell_of_blk HBK.out
        have z5 : wr.cell? ⟨w.heap.size, 5, none⟩ = some (.slice A1 st.length c1) := cell_of_blk HBK.out
        have z6 : wr.cell? ⟨w.heap.size, 6, none⟩ = some (.slice A2 ps.length c2) := cell_of_blk HBK.out
        go_wp2_with fail
        repeat' (first
          | (with_reducible refine (refIn p 0 3 _ false Gp.out).mono ?_; rintro e w1 ⟨rfl, rfl⟩; go_wp2_with fail))
        all_goals
          first
            | (go_ret; exact ⟨rfl, HB.out⟩)
            | (exfalso; omega)
      have Gp : Aside0 (true = decide (0 ≤ p ∧ p ≤ 3)) := ⟨(decide_eq_true hp).symm⟩
      by_cases hs : s = 0
      case' neg =>
        have gs : (s == 0) = false := by simpa using hs
        obtain rfl := bool_no HR.out (by omega)
        have z1 : wr.cell? ⟨w.heap.size, 1, none⟩ = _ := cell_of_blk HBK.out
        have z2 : wr.cell? ⟨w.heap.size, 2, none⟩ = _ := cell_of_blk HBK.out
        have z3 : wr.cell? ⟨w.heap.size, 3, none⟩ = _ := cell_of_blk HBK.out
        have z4 : wr.cell? ⟨w.heap.size, 4, none⟩ = _ := cell_of_blk HBK.out
        have z5 : wr.cell? ⟨w.heap.size, 5, none⟩ = some (.slice A1 st.length c1) := cell_of_blk HBK.out
        have z6 : wr.cell? ⟨w.heap.size, 6, none⟩ = some (.slice A2 ps.length c2) := cell_of_blk HBK.out
        go_wp2_with fail
        repeat' (first
          | (with_reducible refine (refIn p 0 3 _ true Gp.out).mono ?_; rintro e w1 ⟨rfl, rfl⟩; go_wp2_with fail))
        all_goals
          first
            | (go_ret; exact ⟨rfl, HB.out⟩)
            | (exfalso; omega)
      subst hs
      by_cases ha : a = 0
      case' neg =>
        have ga : (a == 0) = false := by simpa using ha
        obtain rfl := bool_no HR.out (by omega)
        have z1 : wr.cell? ⟨w.heap.size, 1, none⟩ = _ := cell_of_blk HBK.out
        have z2 : wr.cell? ⟨w.heap.size, 2, none⟩ = _ := cell_of_blk HBK.out
        have z3 : wr.cell? ⟨w.heap.size, 3, none⟩ = _ := cell_of_blk HBK.out
        have z4 : wr.cell? ⟨w.heap.size, 4, none⟩ = _ := cell_of_blk HBK.out
        have z5 : wr.cell? ⟨w.heap.size, 5, none⟩ = some (.slice A1 st.length c1) := cell_of_blk HBK.out
        have z6 : wr.cell? ⟨w.heap.size, 6, none⟩ = some (.slice A2 ps.length c2) := cell_of_blk HBK.out
        go_wp2_with fail
        repeat' (first
          | (with_reducible refine (refIn p 0 3 _ true Gp.out).mono ?_; rintro e w1 ⟨rfl, rfl⟩; go_wp2_with fail))
        all_goals
          first
            | (go_ret; exact ⟨rfl, HB.out⟩)
            | (exfalso; omega)
      subst ha
      by_cases hq : q = 0
      case' neg =>
        have gq : (q == 0) = false := by simpa using hq
        obtain rfl := bool_no HR.out (by omega)
        have z1 : wr.cell? ⟨w.heap.size, 1, none⟩ = _ := cell_of_blk HBK.out
        have z2 : wr.cell? ⟨w.heap.size, 2, none⟩ = _ := cell_of_blk HBK.out
        have z3 : wr.cell? ⟨w.heap.size, 3, none⟩ = _ := cell_of_blk HBK.out
        have z4 : wr.cell? ⟨w.heap.size, 4, none⟩ = _ := cell_of_blk HBK.out
        have z5 : wr.cell? ⟨w.heap.size, 5, none⟩ = some (.slice A1 st.length c1) := cell_of_blk HBK.out
        have z6 : wr.cell? ⟨w.heap.size, 6, none⟩ = some (.slice A2 ps.length c2) := cell_of_blk HBK.out
        go_wp2_with fail
        repeat' (first
          | (with_reducible refine (refIn p 0 3 _ true Gp.out).mono ?_; rintro e w1 ⟨rfl, rfl⟩; go_wp2_with fail))
        all_goals
          first
            | (go_ret; exact ⟨rfl, HB.out⟩)
            | (exfalso; omega)
      subst hq
      by_cases hm : 0 < ps.length
      · have gm : ((ps.length : Int) == 0) = false := by simp; intro h; rw [h] at hm; simp at hm
        obtain rfl := bool_no HR.out (by omega)
        have Hmx := Aside0.mk hm
        clear hm
        have z1 : wr.cell? ⟨w.heap.size, 1, none⟩ = _ := cell_of_blk HBK.out
        have z2 : wr.cell? ⟨w.heap.size, 2, none⟩ = _ := cell_of_blk HBK.out
        have z3 : wr.cell? ⟨w.heap.size, 3, none⟩ = _ := cell_of_blk HBK.out
        have z4 : wr.cell? ⟨w.heap.size, 4, none⟩ = _ := cell_of_blk HBK.out
        have z5 : wr.cell? ⟨w.heap.size, 5, none⟩ = some (.slice A1 st.length c1) := cell_of_blk HBK.out
        have z6 : wr.cell? ⟨w.heap.size, 6, none⟩ = some (.slice A2 ps.length c2) := cell_of_blk HBK.out
        go_wp2_with fail
        repeat' (first
          | (with_reducible refine (refIn p 0 3 _ true Gp.out).mono ?_; rintro e w1 ⟨rfl, rfl⟩; go_wp2_with fail))
        all_goals
          first
            | (go_ret; exact ⟨rfl, HB.out⟩)
            | (exfalso; omega)
      have gm : ((ps.length : Int) == 0) = true := by simp; exact List.eq_nil_of_length_eq_zero (by omega)
      obtain rfl := HR.out.2 (.inr (.inr (.inr (.inr ⟨by trivial, hp, rfl, rfl, rfl, HALL.out, by omega⟩))))
      have z1 : wr.cell? ⟨w.heap.size, 1, none⟩ = _ := cell_of_blk HBK.out
      have z2 : wr.cell? ⟨w.heap.size, 2, none⟩ = _ := cell_of_blk HBK.out
      have z3 : wr.cell? ⟨w.heap.size, 3, none⟩ = _ := cell_of_blk HBK.out
      have z4 : wr.cell? ⟨w.heap.size, 4, none⟩ = _ := cell_of_blk HBK.out
      have z5 : wr.cell? ⟨w.heap.size, 5, none⟩ = some (.slice A1 st.length c1) := cell_of_blk HBK.out
      have z6 : wr.cell? ⟨w.heap.size, 6, none⟩ = some (.slice A2 ps.length c2) := cell_of_blk HBK.out
      go_wp2_with fail
      repeat' (first
        | (with_reducible refine (refIn p 0 3 _ true Gp.out).mono ?_; rintro e w1 ⟨rfl, rfl⟩; go_wp2_with fail))
      all_goals
        first
          | (go_ret; exact ⟨rfl, HB.out⟩)
          | (exfalso; omega)
set_option maxRecDepth 100000 in
set_option maxHeartbeats 6400000 in
theorem refMayRec_6 (p s a q : Int) (st : List Int) (ps : List PairD) (A1 A2 : Option Addr) (c1 c2 : Nat) (w : World) (hx : RecC w ⟨6, p, s, a, q, st, ps⟩ A1 A2 c1 c2) (r : Bool) (hr : r = true ↔ MayR ⟨6, p, s, a, q, st, ps⟩) :
    Calls Try.prog 37 #[recV ⟨6, p, s, a, q, st, ps⟩ (.slice A1 st.length c1) (.slice A2 ps.length c2)] w fun e w' => e = .returned (.bool r) ∧ Below w.heap.size w w' := by
  change r = true ↔ MayP 6 p s a q st.length ps.length (st.length ≤ 4 ∧ AllIn st 0 40) (SetMay st) (PairsMay ps) at hr
  unfold MayP at hr
  have HR := Aside0.mk hr
  have HXs : Aside0 (Kd.C kI w A1 st.length st) := ⟨hx.s⟩
  have HXp : Aside0 (Kd.C kPair w A2 ps.length ps) := ⟨hx.p⟩
  have hm0 : st.length ≤ 9223372036854775807 := Kd.C_max hx.s
  clear hr hx
  unfold recV
  go_enter Try.func37, Try.ntmps37
  go_wp2_with fail
  go_quiet (fail)
  go_wp2_with fail
  go_quiet (fail)
  by_cases hs : s = 0
  case' neg =>
    have gs : (s == 0) = false := by simpa using hs
    obtain rfl := bool_no HR.out (by omega)
    go_wp2_with fail
    all_goals
      first
        | (go_ret; exact ⟨rfl, below_box_drewN _ _ _⟩)
        | (exfalso; omega)
  subst hs
  by_cases hp : p = 0
  case' neg =>
    have gp : (p == 0) = false := by simpa using hp
    obtain rfl := bool_no HR.out (by omega)
    go_wp2_with fail
    all_goals
      first
        | (go_ret; exact ⟨rfl, below_box_drewN _ _ _⟩)
        | (exfalso; omega)
  subst hp
  by_cases ha : a = 0
  case' neg =>
    have ga : (a == 0) = false := by simpa using ha
    obtain rfl := bool_no HR.out (by omega)
    go_wp2_with fail
    all_goals
      first
        | (go_ret; exact ⟨rfl, below_box_drewN _ _ _⟩)
        | (exfalso; omega)
  subst ha
  by_cases hq : q = 0
  case' neg =>
    have gq : (q == 0) = false := by simpa using hq
    obtain rfl := bool_no HR.out (by omega)
    go_wp2_with fail
    all_goals
      first
        | (go_ret; exact ⟨rfl, below_box_drewN _ _ _⟩)
        | (exfalso; omega)
  subst hq
  by_cases hn : 0 < st.length
  · have gn : ((st.length : Int) == 0) = false := by simp; intro h; rw [h] at hn; simp at hn
    obtain rfl := bool_no HR.out (by omega)
    have Hnx := Aside0.mk hn
    clear hn
    go_wp2_with fail
    all_goals
      first
        | (go_ret; exact ⟨rfl, below_box_drewN _ _ _⟩)
        | (exfalso; omega)
  have gn : ((st.length : Int) == 0) = true := by simp; exact List.eq_nil_of_length_eq_zero (by omega)
  by_cases hm : 0 < ps.length
  · have gm : ((ps.length : Int) == 0) = false := by simp; intro h; rw [h] at hm; simp at hm
    obtain rfl := bool_no HR.out (by omega)
    have Hmx := Aside0.mk hm
    clear hm
    go_wp2_with fail
    all_goals
      first
        | (go_ret; exact ⟨rfl, below_box_drewN _ _ _⟩)
        | (exfalso; omega)
  have gm : ((ps.length : Int) == 0) = true := by simp; exact List.eq_nil_of_length_eq_zero (by omega)
  obtain rfl := HR.out.2 (.inr (.inl ⟨.inr (by trivial), rfl, rfl, rfl, rfl, by omega, by omega⟩))
  go_wp2_with fail
  all_goals
    first
      | (go_ret; exact ⟨rfl, below_box_drewN _ _ _⟩)
      | (exfalso; omega)
set_option maxRecDepth 100000 in
set_option maxHeartbeats 6400000 in
theorem refMayRec_0 (k : Int) (hk : k ≠ 1 ∧ k ≠ 2 ∧ k ≠ 3 ∧ k ≠ 4 ∧ k ≠ 5 ∧ k ≠ 6) (p s a q : Int) (st : List Int) (ps : List PairD) (A1 A2 : Option Addr) (c1 c2 : Nat) (w : World) (hx : RecC w ⟨k, p, s, a, q, st, ps⟩ A1 A2 c1 c2) (r : Bool) (hr : r = true ↔ MayR ⟨k, p, s, a, q, st, ps⟩) :
    Calls Try.prog 37 #[recV ⟨k, p, s, a, q, st, ps⟩ (.slice A1 st.length c1) (.slice A2 ps.length c2)] w fun e w' => e = .returned (.bool r) ∧ Below w.heap.size w w' := by
  change r = true ↔ MayP k p s a q st.length ps.length (st.length ≤ 4 ∧ AllIn st 0 40) (SetMay st) (PairsMay ps) at hr
  unfold MayP at hr
  have HR := Aside0.mk hr
  have HXs : Aside0 (Kd.C kI w A1 st.length st) := ⟨hx.s⟩
  have HXp : Aside0 (Kd.C kPair w A2 ps.length ps) := ⟨hx.p⟩
  have hm0 : st.length ≤ 9223372036854775807 := Kd.C_max hx.s
  clear hr hx
  unfold recV
  obtain ⟨hk1, hk2, hk3, hk4, hk5, hk6⟩ := hk
  have gk1 : (k == 1) = false := by simpa using hk1
  have gk2 : (k == 2) = false := by simpa using hk2
  have gk3 : (k == 3) = false := by simpa using hk3
  have gk4 : (k == 4) = false := by simpa using hk4
  have gk5 : (k == 5) = false := by simpa using hk5
  have gk6 : (k == 6) = false := by simpa using hk6
  obtain rfl := bool_no HR.out (by omega)
  clear HR hk1 hk2 hk3 hk4 hk5 hk6
  go_enter Try.func37, Try.ntmps37
  go_wp2_with fail
  go_quiet (fail)
  go_wp2_with fail
  go_quiet (fail)
  go_wp2_with fail
  all_goals
    first
      | (go_ret; exact ⟨rfl, below_box_drewN _ _ _⟩)
      | (exfalso; omega)
theorem refMayRec (x : RecD) (A1 A2 : Option Addr) (c1 c2 : Nat) (w : World) (hx : RecC w x A1 A2 c1 c2) (r : Bool) (hr : r = true ↔ MayR x) :
    Calls Try.prog 37 #[recV x (.slice A1 x.set.length c1) (.slice A2 x.prs.length c2)] w fun e w' => e = .returned (.bool r) ∧ Below w.heap.size w w' := by
  obtain ⟨k, p, s, a, q, st, ps⟩ := x
  rcases (show k = 1 ∨ k = 2 ∨ k = 3 ∨ k = 4 ∨ k = 5 ∨ k = 6 ∨ (k ≠ 1 ∧ k ≠ 2 ∧ k ≠ 3 ∧ k ≠ 4 ∧ k ≠ 5 ∧ k ≠ 6) from by omega) with rfl | rfl | rfl | rfl | rfl | rfl | hk
  · exact refMayRec_1 p s a q st ps A1 A2 c1 c2 w hx r hr
  · exact refMayRec_2 p s a q st ps A1 A2 c1 c2 w hx r hr
  · exact refMayRec_3 p s a q st ps A1 A2 c1 c2 w hx r hr
  · exact refMayRec_4 p s a q st ps A1 A2 c1 c2 w hx r hr
  · exact refMayRec_5 p s a q st ps A1 A2 c1 c2 w hx r hr
  · exact refMayRec_6 p s a q st ps A1 A2 c1 c2 w hx r hr
  · exact refMayRec_0 k hk p s a q st ps A1 A2 c1 c2 w hx r hr
end Go.Proofs.Ytkgbcoijkmlmnaa.K
