/- Which pairs, numbers, sets and records may be. -/
import Derived.Test.YtkgbcoijkmlmnaaR1
import Derived.Test.YtkgbcoijkmlmnaaKQ
set_option linter.unusedVariables false
set_option linter.unusedSimpArgs false
namespace Go.Proofs.Ytkgbcoijkmlmnaa.K
open Go.RowKit Go.Proofs.YtkgbcoijkmlmnaaW.PrintWords Go.Proofs.YtkgbcoijkmlmnaaW.PrintLast Go.Proofs.YtkgbcoijkmlmnaaW.PrintMore Go.Proofs.Ytkgbcoijkmlmnaa.U Go.Proofs.Ytkgbcoijkmlmnaa.T

theorem two_andj (w w1 w2 : World) (h : Below w.heap.size w w1) (k : Below w1.heap.size w1 w2) : Below w.heap.size w w2 := below_then h h.size k
/-- May pairs be? -/
def PairsMay (l : List PairD) : Prop := ∀ x ∈ l, x.key.size ≤ 16 ∧ x.val.size ≤ 64
instance (l : List PairD) : Decidable (PairsMay l) := by unfold PairsMay; infer_instance

theorem badPair (a b : ByteArray) (w : World) (r : Bool) (hr : r = decide (¬ (a.size ≤ 16 ∧ b.size ≤ 64))) : Calls Try.prog 88 #[.agg #[.string a, .string b]] w fun e w' => e = .returned (.bool r) ∧ Below w.heap.size w w' := by
  by_cases h1 : a.size ≤ 16 <;> by_cases h2 : b.size ≤ 64
  · have HR : Aside0 (r = false) := ⟨by rw [hr]; simp [h1, h2]⟩
    have h3 : ¬ (16 : Int) < a.size := by omega
    have h4 : ¬ (64 : Int) < b.size := by omega
    clear hr h1 h2
    go_enter Try.func88, Try.ntmps88
    go_wp2_with fail
    go_ret
    exact ⟨by rw [HR.out]; rfl, (Below.refl _ _).alloc (Nat.le_refl _) _⟩
  · have HR : Aside0 (r = true) := ⟨by rw [hr]; simp [h2]⟩
    have h3 : ¬ (16 : Int) < a.size := by omega
    have h4 : (64 : Int) < b.size := by omega
    clear hr h1 h2
    go_enter Try.func88, Try.ntmps88
    go_wp2_with fail
    go_ret
    exact ⟨by rw [HR.out]; rfl, (Below.refl _ _).alloc (Nat.le_refl _) _⟩
  all_goals
    have HR : Aside0 (r = true) := ⟨by rw [hr]; simp [h1]⟩
    have h3 : (16 : Int) < a.size := by omega
    clear hr h1 h2
    go_enter Try.func88, Try.ntmps88
    go_wp2_with fail
    go_ret
    exact ⟨by rw [HR.out]; rfl, (Below.refl _ _).alloc (Nat.le_refl _) _⟩
set_option maxRecDepth 10000 in
set_option maxHeartbeats 1600000 in
theorem indexBad (A0 : Option Addr) (c0 : Nat) (l0 : List PairD) (w : World) (hr0 : Kd.C kPair w A0 l0.length l0) :
    Calls Try.prog 96 #[.slice A0 l0.length c0, .func (.func 88) #[] #[]] w fun e w' => ∃ b : Int, e = .returned (.int .i64 b) ∧ Aside0 (b < 0 ↔ PairsMay l0) ∧ Below w.heap.size w w' := by
  have hm0 := Kd.C_max hr0
  have HR0 := Aside0.mk hr0
  have hu := Try.underlying114
  clear hr0
  go_enter Try.func96, Try.ntmps96
  go_wp2_with fail
  go_loopg [8] l0.length (fun kq v w' => ∃ k : Nat, k + kq = l0.length ∧ v = .int .i64 k ∧ Aside0 (∀ j (hj : j < l0.length), j < k → l0[j].key.size ≤ 16 ∧ l0[j].val.size ≤ 64) ∧ Aside0 (Below w.heap.size w w'))
  case atStart => exact ⟨0, by omega, rfl, ⟨fun j hj h => by omega⟩, ⟨Below.refl _ _⟩⟩
  case round =>
    obtain ⟨k, hk, rfl, HA, HB⟩ := hrel
    by_cases hlt : k < l0.length
    · obtain ⟨ad, rfl, hx0, hx1⟩ := at_pair2 (Kd.C_below HR0.out HB.out) k hlt
      obtain ⟨x, hx⟩ : ∃ x, x = l0[k] := ⟨_, rfl⟩
      rw [← hx] at hx0 hx1
      have HX := Aside0.mk hx
      obtain ⟨a, b⟩ := x
      clear hx
      by_cases hmay : a.size ≤ 16 ∧ b.size ≤ 64
      · have HRR : Aside0 (false = decide (¬ (a.size ≤ 16 ∧ b.size ≤ 64))) := ⟨(decide_eq_false (fun h => h hmay)).symm⟩
        have HMAY := Aside0.mk hmay
        clear hmay
        go_wp2_with fail
        refine (badPair a b _ false HRR.out).mono ?_
        rintro e w1 ⟨rfl, hb1⟩
        have HB1 := Aside0.mk (two_andj _ _ _ HB.out hb1)
        clear hb1
        go_wp2_with fail
        go_roundg (l0.length - (k + 1))
        case measure => omega
        case rel => exact ⟨k + 1, by omega, by go_num, ⟨fun j hj h => by
            rcases Nat.lt_or_ge j k with h1 | h1
            · exact HA.out j hj h1
            · obtain rfl : j = k := by omega
              rw [← HX.out]
              exact HMAY.out⟩, HB1⟩
      · have HRR : Aside0 (true = decide (¬ (a.size ≤ 16 ∧ b.size ≤ 64))) := ⟨(decide_eq_true hmay).symm⟩
        have HMAY := Aside0.mk hmay
        clear hmay
        go_wp2_with fail
        refine (badPair a b _ true HRR.out).mono ?_
        rintro e w1 ⟨rfl, hb1⟩
        have HB1 := Aside0.mk (two_andj _ _ _ HB.out hb1)
        clear hb1
        go_wp2_with fail
        go_ret
        exact ⟨(k : Int), rfl, ⟨by constructor <;> intro h; omega; exact absurd (h _ (List.getElem_mem hlt)) (by rw [← HX.out]; exact HMAY.out)⟩, HB1.out⟩
    · obtain rfl : k = l0.length := by omega
      go_wp2_with fail
      go_ret
      refine ⟨_, rfl, ⟨?_⟩, HB.out⟩
      refine ⟨fun _ x hx => ?_, fun _ => by decide⟩
      obtain ⟨j, hj, rfl⟩ := List.getElem_of_mem hx
      exact HA.out j hj hj
theorem pairMay (A0 : Option Addr) (c0 : Nat) (l0 : List PairD) (w : World) (hr0 : Kd.C kPair w A0 l0.length l0) (r : Bool) (hr : r = decide (PairsMay l0)) :
    Calls Try.prog 60 #[.slice A0 l0.length c0] w fun e w' => e = .returned (.bool r) ∧ Below w.heap.size w w' := by
  have hm0 := Kd.C_max hr0
  have HR0 := Aside0.mk hr0
  have HR := Aside0.mk hr
  clear hr0 hr
  have hcon : Calls Try.prog 87 #[.slice A0 l0.length c0, .func (.func 88) #[] #[]] w fun e w' => e = .returned (.bool (!r)) ∧ Below w.heap.size w w' := by
    go_enter Try.func87, Try.ntmps87
    go_wp2_with fail
    refine (indexBad A0 c0 l0 w HR0.out).mono ?_
    rintro e w1 ⟨b, rfl, HBB, hb1⟩
    have HB1 := Aside0.mk hb1
    clear hb1
    go_wp2_with fail
    go_ret
    refine ⟨congrArg (fun b => Ending.returned (.bool b)) (show decide (0 ≤ b) = !r from ?_), HB1.out⟩
    have h := HBB.out
    rw [HR.out]
    by_cases hp : PairsMay l0
    · rw [decide_eq_true hp, decide_eq_false (by have := h.2 hp; omega)]; rfl
    · rw [decide_eq_false hp, decide_eq_true (by rcases Int.lt_or_le b 0 with h1 | h1; exact absurd (h.1 h1) hp; exact h1)]; rfl
  have HC := Aside0.mk hcon
  clear hcon
  go_enter Try.func60, Try.ntmps60
  go_wp2_with fail
  refine HC.out.mono ?_
  rintro e w1 ⟨rfl, hb1⟩
  have HB1 := Aside0.mk hb1
  clear hb1
  cases r
  all_goals
    go_wp2_with fail
    go_ret
    exact ⟨rfl, HB1.out⟩
set_option maxRecDepth 10000 in
set_option maxHeartbeats 1600000 in
theorem refPairMay (A0 : Option Addr) (c0 : Nat) (l0 : List PairD) (w : World) (hr0 : Kd.C kPair w A0 l0.length l0) (r : Bool) (hr : r = decide (PairsMay l0)) :
    Calls Try.prog 67 #[.slice A0 l0.length c0] w fun e w' => e = .returned (.bool r) ∧ Below w.heap.size w w' := by
  have hm0 := Kd.C_max hr0
  have HR0 := Aside0.mk hr0
  have HR := Aside0.mk hr
  clear hr0 hr
  go_enter Try.func67, Try.ntmps67
  go_wp2_with fail
  go_loopg [3] l0.length (fun kq v w' => ∃ k : Nat, k + kq = l0.length ∧ v = .int .i64 k ∧ Aside0 (∀ j (hj : j < l0.length), j < k → l0[j].key.size ≤ 16 ∧ l0[j].val.size ≤ 64) ∧ Aside0 (Below w.heap.size w w'))
  case atStart => exact ⟨0, by omega, rfl, ⟨fun j hj h => by omega⟩, ⟨Below.refl _ _⟩⟩
  case round =>
    obtain ⟨k, hk, rfl, HA, HB⟩ := hrel
    by_cases hlt : k < l0.length
    · obtain ⟨ad, rfl, hx0, hx1⟩ := at_pair2 (Kd.C_below HR0.out HB.out) k hlt
      obtain ⟨x, hx⟩ : ∃ x, x = l0[k] := ⟨_, rfl⟩
      rw [← hx] at hx0 hx1
      have HX := Aside0.mk hx
      obtain ⟨a, b⟩ := x
      clear hx
      by_cases h1 : (16 : Int) < a.size
      · go_wp2_with fail
        go_ret
        exact ⟨by rw [HR.out, decide_eq_false (fun h => by have := (h _ (List.getElem_mem hlt)).1; rw [← HX.out] at this; exact absurd this (by show ¬ a.size ≤ 16; omega))]; rfl, HB.out⟩
      · by_cases h2 : (64 : Int) < b.size
        · go_wp2_with fail
          go_ret
          exact ⟨by rw [HR.out, decide_eq_false (fun h => by have := (h _ (List.getElem_mem hlt)).2; rw [← HX.out] at this; exact absurd this (by show ¬ b.size ≤ 64; omega))]; rfl, HB.out⟩
        · go_wp2_with fail
          go_roundg (l0.length - (k + 1))
          case measure => omega
          case rel => exact ⟨k + 1, by omega, by go_num, ⟨fun j hj h => by
            rcases Nat.lt_or_ge j k with h3 | h3
            · exact HA.out j hj h3
            · obtain rfl : j = k := by omega
              rw [← HX.out]
              exact ⟨by show a.size ≤ 16; omega, by show b.size ≤ 64; omega⟩⟩, HB⟩
    · obtain rfl : k = l0.length := by omega
      go_wp2_with fail
      go_ret
      refine ⟨?_, HB.out⟩
      have hp : PairsMay l0 := fun x hx => by
        obtain ⟨j, hj, rfl⟩ := List.getElem_of_mem hx
        exact HA.out j hj hj
      rw [HR.out, decide_eq_true hp]
      rfl
theorem bool_of (P : Prop) : ∃ r : Bool, r = true ↔ P := by
  by_cases h : P
  · exact ⟨true, by simp [h]⟩
  · exact ⟨false, by simp [h]⟩
theorem bool_no {P : Prop} {r : Bool} (h : r = true ↔ P) (hn : ¬ P) : r = false := Bool.eq_false_iff.2 (fun e => hn (h.1 e))
theorem bool_yes {P : Prop} {r : Bool} (h : r = true ↔ P) (hp : P) : r = true := h.2 hp

theorem within (n lo hi : Int) (w : World) (r : Bool) (hr : r = decide (lo ≤ n ∧ n ≤ hi)) : Calls Try.prog 84 #[.int .i64 n, .int .i64 lo, .int .i64 hi] w fun e w' => e = .returned (.bool r) ∧ w' = w := by
  by_cases h1 : lo ≤ n
  · by_cases h2 : n ≤ hi
    · have HR : Aside0 (r = true) := ⟨by rw [hr]; exact decide_eq_true ⟨h1, h2⟩⟩
      clear hr
      go_enter Try.func84, Try.ntmps84
      go_wp2_with fail
      go_ret
      exact ⟨by rw [HR.out]; first | done | rfl, rfl⟩
    · have HR : Aside0 (r = false) := ⟨by rw [hr]; exact decide_eq_false (fun h => h2 h.2)⟩
      clear hr
      go_enter Try.func84, Try.ntmps84
      go_wp2_with fail
      go_ret
      exact ⟨by rw [HR.out]; first | done | rfl, rfl⟩
  · have HR : Aside0 (r = false) := ⟨by rw [hr]; exact decide_eq_false (fun h => h1 h.1)⟩
    clear hr
    go_enter Try.func84, Try.ntmps84
    go_wp2_with fail
    go_ret
    exact ⟨by rw [HR.out]; first | done | rfl, rfl⟩
theorem refIn (n lo hi : Int) (w : World) (r : Bool) (hr : r = decide (lo ≤ n ∧ n ≤ hi)) : Calls Try.prog 66 #[.int .i64 n, .int .i64 lo, .int .i64 hi] w fun e w' => e = .returned (.bool r) ∧ w' = w := by
  by_cases h1 : lo ≤ n
  · by_cases h2 : n ≤ hi
    · have HR : Aside0 (r = true) := ⟨by rw [hr]; exact decide_eq_true ⟨h1, h2⟩⟩
      clear hr
      go_enter Try.func66, Try.ntmps66
      go_wp2_with fail
      go_ret
      exact ⟨by rw [HR.out]; first | done | rfl, rfl⟩
    · have HR : Aside0 (r = false) := ⟨by rw [hr]; exact decide_eq_false (fun h => h2 h.2)⟩
      clear hr
      go_enter Try.func66, Try.ntmps66
      go_wp2_with fail
      go_ret
      exact ⟨by rw [HR.out]; first | done | rfl, rfl⟩
  · have HR : Aside0 (r = false) := ⟨by rw [hr]; exact decide_eq_false (fun h => h1 h.1)⟩
    clear hr
    go_enter Try.func66, Try.ntmps66
    go_wp2_with fail
    go_ret
    exact ⟨by rw [HR.out]; first | done | rfl, rfl⟩
theorem splitM (n : Int) (w : World) (r : Bool) (hr : r = decide (0 ≤ n ∧ n ≤ 5)) : Calls Try.prog 55 #[.int .i64 n] w fun e w' => e = .returned (.bool r) ∧ w' = w := by
  have HR := Aside0.mk hr
  clear hr
  go_enter Try.func55, Try.ntmps55
  go_wp2_with fail
  refine (within n 0 5 w r HR.out).mono ?_
  rintro e w ⟨rfl, rfl⟩
  go_wp2_with fail
  go_ret
  exact ⟨rfl, rfl⟩
theorem partM (n : Int) (w : World) (r : Bool) (hr : r = decide (0 ≤ n ∧ n ≤ 3)) : Calls Try.prog 59 #[.int .i64 n] w fun e w' => e = .returned (.bool r) ∧ w' = w := by
  have HR := Aside0.mk hr
  clear hr
  go_enter Try.func59, Try.ntmps59
  go_wp2_with fail
  refine (within n 0 3 w r HR.out).mono ?_
  rintro e w ⟨rfl, rfl⟩
  go_wp2_with fail
  go_ret
  exact ⟨rfl, rfl⟩
theorem attemptM (n : Int) (w : World) (r : Bool) (hr : r = decide (1 ≤ n ∧ n ≤ 3)) : Calls Try.prog 56 #[.int .i64 n] w fun e w' => e = .returned (.bool r) ∧ w' = w := by
  have HR := Aside0.mk hr
  clear hr
  go_enter Try.func56, Try.ntmps56
  go_wp2_with fail
  refine (within n 1 3 w r HR.out).mono ?_
  rintro e w ⟨rfl, rfl⟩
  go_wp2_with fail
  go_ret
  exact ⟨rfl, rfl⟩
/-- May a winner's counts be? -/
def AllIn (l : List Int) (lo hi : Int) : Prop := ∀ y ∈ l, lo ≤ y ∧ y ≤ hi
instance (l : List Int) (lo hi : Int) : Decidable (AllIn l lo hi) := by unfold AllIn; infer_instance
theorem badCount (n : Int) (w : World) (r : Bool) (hr : r = decide (¬ (0 ≤ n ∧ n ≤ 40))) : Calls Try.prog 86 #[.int .i64 n] w fun e w' => e = .returned (.bool r) ∧ w' = w := by
  have HR : Aside0 ((!r) = decide (0 ≤ n ∧ n ≤ 40)) := ⟨by rw [hr]; by_cases h : (0 ≤ n ∧ n ≤ 40) <;> simp [h]⟩
  clear hr
  go_enter Try.func86, Try.ntmps86
  go_wp2_with fail
  refine (within n 0 40 w (!r) HR.out).mono ?_
  rintro e w ⟨rfl, rfl⟩
  cases r
  all_goals
    go_wp2_with fail
    go_ret
    exact ⟨rfl, rfl⟩
set_option maxRecDepth 10000 in
set_option maxHeartbeats 1600000 in
theorem indexCount (A0 : Option Addr) (c0 : Nat) (l0 : List Int) (w : World) (hr0 : Kd.C (Kd.int .i64) w A0 l0.length l0) :
    Calls Try.prog 95 #[.slice A0 l0.length c0, .func (.func 86) #[] #[]] w fun e w' => ∃ b : Int, e = .returned (.int .i64 b) ∧ Aside0 (b < 0 ↔ AllIn l0 0 40) ∧ Below w.heap.size w w' := by
  have hm0 := Kd.C_max hr0
  have HR0 := Aside0.mk hr0
  clear hr0
  go_enter Try.func95, Try.ntmps95
  go_wp2_with fail
  go_loopg [8] l0.length (fun kq v w' => ∃ k : Nat, k + kq = l0.length ∧ v = .int .i64 k ∧ Aside0 (∀ j (hj : j < l0.length), j < k → 0 ≤ l0[j] ∧ l0[j] ≤ 40) ∧ Aside0 (Below w.heap.size w w'))
  case atStart => exact ⟨0, by omega, rfl, ⟨fun j hj h => by omega⟩, ⟨Below.refl _ _⟩⟩
  case round =>
    obtain ⟨k, hk, rfl, HA, HB⟩ := hrel
    by_cases hlt : k < l0.length
    · obtain ⟨ad, rfl, hx0⟩ := Kd.at_int (Kd.C_below HR0.out HB.out) (k : Int) (by omega) (by omega)
      rw [rd_at _ _ hlt, Int.toNat_natCast] at hx0
      obtain ⟨x, hx⟩ : ∃ x, x = l0[k] := ⟨_, rfl⟩
      rw [← hx] at hx0
      have HX := Aside0.mk hx
      clear hx
      by_cases hmay : 0 ≤ x ∧ x ≤ 40
      · have HRR : Aside0 (false = decide (¬ (0 ≤ x ∧ x ≤ 40))) := ⟨(decide_eq_false (fun h => h hmay)).symm⟩
        have HMAY := Aside0.mk hmay
        clear hmay
        go_wp2_with fail
        refine (badCount x _ false HRR.out).mono ?_
        rintro e w1 ⟨rfl, hw1⟩
        have HB1 : Aside0 (Below w.heap.size w w1) := ⟨by rw [hw1]; exact HB.out⟩
        clear hw1
        go_wp2_with fail
        go_roundg (l0.length - (k + 1))
        case measure => omega
        case rel => exact ⟨k + 1, by omega, by go_num, ⟨fun j hj h => by
            rcases Nat.lt_or_ge j k with h1 | h1
            · exact HA.out j hj h1
            · obtain rfl : j = k := by omega
              rw [← HX.out]
              exact HMAY.out⟩, HB1⟩
      · have HRR : Aside0 (true = decide (¬ (0 ≤ x ∧ x ≤ 40))) := ⟨(decide_eq_true hmay).symm⟩
        have HMAY := Aside0.mk hmay
        clear hmay
        go_wp2_with fail
        refine (badCount x _ true HRR.out).mono ?_
        rintro e w1 ⟨rfl, hw1⟩
        have HB1 : Aside0 (Below w.heap.size w w1) := ⟨by rw [hw1]; exact HB.out⟩
        clear hw1
        go_wp2_with fail
        go_ret
        exact ⟨(k : Int), rfl, ⟨by constructor <;> intro h; omega; exact absurd (h _ (List.getElem_mem hlt)) (by rw [← HX.out]; exact HMAY.out)⟩, HB1.out⟩
    · obtain rfl : k = l0.length := by omega
      go_wp2_with fail
      go_ret
      refine ⟨_, rfl, ⟨?_⟩, HB.out⟩
      refine ⟨fun _ x hx => ?_, fun _ => by decide⟩
      obtain ⟨j, hj, rfl⟩ := List.getElem_of_mem hx
      exact HA.out j hj hj
theorem countsM (A0 : Option Addr) (c0 : Nat) (l0 : List Int) (w : World) (hr0 : Kd.C (Kd.int .i64) w A0 l0.length l0) (r : Bool) (hr : r = true ↔ l0.length ≤ 4 ∧ AllIn l0 0 40) :
    Calls Try.prog 57 #[.slice A0 l0.length c0] w fun e w' => e = .returned (.bool r) ∧ Below w.heap.size w w' := by
  have hm0 := Kd.C_max hr0
  have HR0 := Aside0.mk hr0
  have HR := Aside0.mk hr
  clear hr0 hr
  by_cases h4 : l0.length ≤ 4
  · have h4' : (l0.length : Int) ≤ 4 := by omega
    have hr2 : r = decide (AllIn l0 0 40) := by
      by_cases h : AllIn l0 0 40
      · rw [HR.out.2 ⟨h4, h⟩, decide_eq_true h]
      · rw [bool_no HR.out (fun h' => h h'.2), decide_eq_false h]
    have HR2 := Aside0.mk hr2
    clear hr2
    have hcon : Calls Try.prog 85 #[.slice A0 l0.length c0, .func (.func 86) #[] #[]] w fun e w' => e = .returned (.bool (!r)) ∧ Below w.heap.size w w' := by
      clear h4 h4'
      go_enter Try.func85, Try.ntmps85
      go_wp2_with fail
      refine (indexCount A0 c0 l0 w HR0.out).mono ?_
      rintro e w1 ⟨b, rfl, HBB, hb1⟩
      have HB1 := Aside0.mk hb1
      clear hb1
      go_wp2_with fail
      go_ret
      refine ⟨congrArg (fun b => Ending.returned (.bool b)) (show decide (0 ≤ b) = !r from ?_), HB1.out⟩
      have h := HBB.out
      rw [HR2.out]
      by_cases hp : AllIn l0 0 40
      · rw [decide_eq_true hp, decide_eq_false (by have := h.2 hp; omega)]; rfl
      · rw [decide_eq_false hp, decide_eq_true (by rcases Int.lt_or_le b 0 with h1 | h1; exact absurd (h.1 h1) hp; exact h1)]; rfl
    have HC := Aside0.mk hcon
    clear hcon
    go_enter Try.func57, Try.ntmps57
    go_wp2_with fail
    refine HC.out.mono ?_
    rintro e w1 ⟨rfl, hb1⟩
    have HB1 := Aside0.mk hb1
    clear hb1
    cases r
    all_goals
      go_wp2_with fail
      go_ret
      exact ⟨rfl, HB1.out⟩
  · have h4' : ¬ (l0.length : Int) ≤ 4 := by omega
    obtain rfl := bool_no HR.out (fun h => h4 h.1)
    clear h4
    go_enter Try.func57, Try.ntmps57
    go_wp2_with fail
    go_ret
    exact ⟨rfl, Below.refl _ _⟩
/-- May a snapshot's splits be? -/
def SetMay (l : List Int) : Prop := ∀ j, j < l.length → (0 ≤ l.getD j 0 ∧ l.getD j 0 ≤ 5) ∧ (0 < j → l.getD (j - 1) 0 < l.getD j 0)
instance (l : List Int) : Decidable (SetMay l) := by unfold SetMay; infer_instance
theorem setMay_ge {l : List Int} (h : SetMay l) : ∀ j, j < l.length → (j : Int) ≤ l.getD j 0
  | 0, hj => (h 0 hj).1.1
  | j + 1, hj => by
    have h1 := setMay_ge h j (by omega)
    have h2 := (h (j + 1) hj).2 (by omega)
    rw [Nat.add_sub_cancel] at h2
    omega
theorem setMay_six {l : List Int} (h : SetMay l) : l.length ≤ 6 := by
  rcases Nat.lt_or_ge 6 l.length with h1 | h1
  · have h2 := setMay_ge h 6 h1
    have h3 := (h 6 h1).1.2
    omega
  · exact h1
def lastS (l : List Int) (k : Nat) : Int := if k = 0 then -1 else l.getD (k - 1) 0
set_option maxHeartbeats 1600000 in
theorem setM (A0 : Option Addr) (c0 : Nat) (l0 : List Int) (w : World) (hr0 : Kd.C (Kd.int .i64) w A0 l0.length l0) (r : Bool) (hr : r = true ↔ SetMay l0) :
    Calls Try.prog 61 #[.slice A0 l0.length c0] w fun e w' => e = .returned (.bool r) ∧ Below w.heap.size w w' := by
  have hm0 := Kd.C_max hr0
  have HR0 := Aside0.mk hr0
  have HR := Aside0.mk hr
  clear hr0 hr
  go_enter Try.func61, Try.ntmps61
  go_wp2_with fail
  go_loopg [3, 8] l0.length (fun kq v3 v8 w' => ∃ (k : Nat) (u : Int), k + kq = l0.length ∧ v8 = .int .i64 k ∧ v3 = .int .i64 u ∧ -1 ≤ u ∧ Aside0 (u = lastS l0 k) ∧ Aside0 (∀ j, j < k → (0 ≤ l0.getD j 0 ∧ l0.getD j 0 ≤ 5) ∧ (0 < j → l0.getD (j - 1) 0 < l0.getD j 0)) ∧ Aside0 (Below w.heap.size w w'))
  case atStart => exact ⟨0, -1, by omega, rfl, rfl, by omega, ⟨rfl⟩, ⟨fun j h => by omega⟩, ⟨Below.refl _ _⟩⟩
  case round =>
    obtain ⟨k, u, hk, rfl, rfl, hu, HU, HA, HB⟩ := hrel
    by_cases hlt : k < l0.length
    · obtain ⟨ad, rfl, hx0⟩ := Kd.at_int (Kd.C_below HR0.out HB.out) (k : Int) (by omega) (by omega)
      rw [rd_at _ _ hlt, Int.toNat_natCast] at hx0
      obtain ⟨x, hx⟩ : ∃ x, x = l0[k] := ⟨_, rfl⟩
      rw [← hx] at hx0
      have HX : Aside0 (l0.getD k 0 = x) := ⟨by rw [hx]; simp [List.getD_eq_getElem?_getD, hlt]⟩
      clear hx
      by_cases hmay : 0 ≤ x ∧ x ≤ 5
      · have HRR : Aside0 (true = decide (0 ≤ x ∧ x ≤ 5)) := ⟨(decide_eq_true hmay).symm⟩
        have HMAY := Aside0.mk hmay
        by_cases hle : x ≤ u
        · have hk0 : k ≠ 0 := by
            intro h0
            have h2 := HU.out
            rw [lastS, if_pos h0] at h2
            omega
          have hrf : r = false := bool_no HR.out (fun h => by
            have h2 := (h k hlt).2 (by omega)
            have h3 := HU.out
            rw [lastS, if_neg hk0] at h3
            rw [HX.out] at h2
            omega)
          subst hrf
          clear hmay hk0 hu
          go_wp2_with fail
          refine (splitM x _ true HRR.out).mono ?_
          rintro e w1 ⟨rfl, hw1⟩
          have HB1 : Aside0 (Below w.heap.size w w1) := ⟨by rw [hw1]; exact HB.out⟩
          clear hw1
          go_wp2_with fail
          go_ret
          exact ⟨rfl, HB1.out⟩
        · clear hmay
          go_wp2_with fail
          refine (splitM x _ true HRR.out).mono ?_
          rintro e w1 ⟨rfl, hw1⟩
          have HB1 : Aside0 (Below w.heap.size w w1) := ⟨by rw [hw1]; exact HB.out⟩
          clear hw1
          go_wp2_with fail
          go_roundg (l0.length - (k + 1))
          case measure => omega
          case rel => exact ⟨k + 1, x, by omega, by go_num, rfl, by have := HMAY.out; omega, ⟨by rw [lastS, if_neg (by omega), Nat.add_sub_cancel, HX.out]⟩, ⟨fun j h => by
              rcases Nat.lt_or_ge j k with h1 | h1
              · exact HA.out j h1
              · obtain rfl : j = k := by omega
                rw [HX.out]
                refine ⟨HMAY.out, fun h0 => ?_⟩
                have h3 := HU.out
                rw [lastS, if_neg (by omega)] at h3
                omega⟩, HB1⟩
      · have HRR : Aside0 (false = decide (0 ≤ x ∧ x ≤ 5)) := ⟨(decide_eq_false hmay).symm⟩
        have hrf : r = false := bool_no HR.out (fun h => hmay (by have := (h k hlt).1; rwa [HX.out] at this))
        subst hrf
        clear hmay
        go_wp2_with fail
        refine (splitM x _ false HRR.out).mono ?_
        rintro e w1 ⟨rfl, hw1⟩
        have HB1 : Aside0 (Below w.heap.size w w1) := ⟨by rw [hw1]; exact HB.out⟩
        clear hw1
        go_wp2_with fail
        go_ret
        exact ⟨rfl, HB1.out⟩
    · obtain rfl : k = l0.length := by omega
      obtain rfl := HR.out.2 (fun j hj => HA.out j hj)
      go_wp2_with fail
      go_ret
      exact ⟨rfl, HB.out⟩
/-- May the end of a job be? -/
def OverMay (x : RecD) : Prop := (1 ≤ x.r ∧ x.r ≤ 6) ∧ ((x.a = 0 ∧ (0 ≤ x.s ∧ x.s ≤ 5) ∧ x.p = 0) ∨ (x.a = 1 ∧ (0 ≤ x.p ∧ x.p ≤ 3) ∧ x.s = 0))
instance (x : RecD) : Decidable (OverMay x) := by unfold OverMay; infer_instance
set_option maxHeartbeats 1600000 in
theorem overM (x : RecD) (sv pv : Value) (w : World) (r : Bool) (hr : r = true ↔ OverMay x) :
    Calls Try.prog 58 #[recV x sv pv] w fun e w' => e = .returned (.bool r) ∧ Below w.heap.size w w' := by
  obtain ⟨k, p, s, a, q, st, ps⟩ := x
  have HR := Aside0.mk hr
  have HB0 := Aside0.mk ((Below.refl w.heap.size w).alloc (Nat.le_refl _) (.cells #[.int .i64 k, .int .i64 p, .int .i64 s, .int .i64 a, .int .i64 q, sv, pv] 64))
  clear hr
  unfold recV
  by_cases hq : 1 ≤ q ∧ q ≤ 6
  case' neg =>
    have hrf : r = false := bool_no HR.out (fun h => by obtain ⟨h1, h2⟩ := h; simp only at h1 h2; exact hq h1)
    subst hrf
    have HQ : Aside0 (false = decide (1 ≤ q ∧ q ≤ 6)) := ⟨(decide_eq_false hq).symm⟩
    clear hq
    go_enter Try.func58, Try.ntmps58
    go_wp2_with fail
    refine (within q 1 6 _ false HQ.out).mono ?_
    rintro e w1 ⟨rfl, rfl⟩
    go_wp2_with fail
    go_ret
    exact ⟨rfl, HB0.out⟩
  have HQ : Aside0 (true = decide (1 ≤ q ∧ q ≤ 6)) := ⟨(decide_eq_true hq).symm⟩
  have HQ2 := Aside0.mk hq
  clear hq
  by_cases ha : a = 0
  · subst ha
    by_cases hs : 0 ≤ s ∧ s ≤ 5
    · by_cases hp : p = 0
      · subst hp
        obtain rfl := HR.out.2 ⟨HQ2.out, .inl ⟨rfl, hs, rfl⟩⟩
        have HS : Aside0 (true = decide (0 ≤ s ∧ s ≤ 5)) := ⟨(decide_eq_true hs).symm⟩
        clear hs
        go_enter Try.func58, Try.ntmps58
        go_wp2_with fail
        refine (within q 1 6 _ true HQ.out).mono ?_
        rintro e w1 ⟨rfl, rfl⟩
        go_wp2_with fail
        refine (splitM s _ true HS.out).mono ?_
        rintro e w1 ⟨rfl, rfl⟩
        go_wp2_with fail
        go_ret
        exact ⟨rfl, HB0.out⟩
      · have hpb : (p == 0) = false := by simpa using hp
        have hrf : r = false := bool_no HR.out (fun h => by obtain ⟨h1, h2⟩ := h; simp only at h1 h2; omega)
        subst hrf
        have HS : Aside0 (true = decide (0 ≤ s ∧ s ≤ 5)) := ⟨(decide_eq_true hs).symm⟩
        clear hs hp
        go_enter Try.func58, Try.ntmps58
        go_wp2_with fail
        refine (within q 1 6 _ true HQ.out).mono ?_
        rintro e w1 ⟨rfl, rfl⟩
        go_wp2_with fail
        refine (splitM s _ true HS.out).mono ?_
        rintro e w1 ⟨rfl, rfl⟩
        go_wp2_with fail
        go_ret
        exact ⟨rfl, HB0.out⟩
    · skip
      have hrf : r = false := bool_no HR.out (fun h => by obtain ⟨h1, h2⟩ := h; simp only at h1 h2; omega)
      subst hrf
      have HS : Aside0 (false = decide (0 ≤ s ∧ s ≤ 5)) := ⟨(decide_eq_false hs).symm⟩
      clear hs
      go_enter Try.func58, Try.ntmps58
      go_wp2_with fail
      refine (within q 1 6 _ true HQ.out).mono ?_
      rintro e w1 ⟨rfl, rfl⟩
      go_wp2_with fail
      refine (splitM s _ false HS.out).mono ?_
      rintro e w1 ⟨rfl, rfl⟩
      go_wp2_with fail
      go_ret
      exact ⟨rfl, HB0.out⟩
  · by_cases ha1 : a = 1
    · subst ha1
      clear ha
      by_cases hp : 0 ≤ p ∧ p ≤ 3
      · by_cases hs : s = 0
        · subst hs
          obtain rfl := HR.out.2 ⟨HQ2.out, .inr ⟨rfl, hp, rfl⟩⟩
          have HP : Aside0 (true = decide (0 ≤ p ∧ p ≤ 3)) := ⟨(decide_eq_true hp).symm⟩
          clear hp
          go_enter Try.func58, Try.ntmps58
          go_wp2_with fail
          refine (within q 1 6 _ true HQ.out).mono ?_
          rintro e w1 ⟨rfl, rfl⟩
          go_wp2_with fail
          refine (partM p _ true HP.out).mono ?_
          rintro e w1 ⟨rfl, rfl⟩
          go_wp2_with fail
          go_ret
          exact ⟨rfl, HB0.out⟩
        · have hsb : (s == 0) = false := by simpa using hs
          have hrf : r = false := bool_no HR.out (fun h => by obtain ⟨h1, h2⟩ := h; simp only at h1 h2; omega)
          subst hrf
          have HP : Aside0 (true = decide (0 ≤ p ∧ p ≤ 3)) := ⟨(decide_eq_true hp).symm⟩
          clear hp hs
          go_enter Try.func58, Try.ntmps58
          go_wp2_with fail
          refine (within q 1 6 _ true HQ.out).mono ?_
          rintro e w1 ⟨rfl, rfl⟩
          go_wp2_with fail
          refine (partM p _ true HP.out).mono ?_
          rintro e w1 ⟨rfl, rfl⟩
          go_wp2_with fail
          go_ret
          exact ⟨rfl, HB0.out⟩
      · skip
        have hrf : r = false := bool_no HR.out (fun h => by obtain ⟨h1, h2⟩ := h; simp only at h1 h2; omega)
        subst hrf
        have HP : Aside0 (false = decide (0 ≤ p ∧ p ≤ 3)) := ⟨(decide_eq_false hp).symm⟩
        clear hp
        go_enter Try.func58, Try.ntmps58
        go_wp2_with fail
        refine (within q 1 6 _ true HQ.out).mono ?_
        rintro e w1 ⟨rfl, rfl⟩
        go_wp2_with fail
        refine (partM p _ false HP.out).mono ?_
        rintro e w1 ⟨rfl, rfl⟩
        go_wp2_with fail
        go_ret
        exact ⟨rfl, HB0.out⟩
    · have hab : (a == 0) = false := by simpa using ha
      have hab1 : (a == 1) = false := by simpa using ha1
      have hrf : r = false := bool_no HR.out (fun h => by obtain ⟨h1, h2⟩ := h; simp only at h1 h2; omega)
      subst hrf
      clear ha ha1
      go_enter Try.func58, Try.ntmps58
      go_wp2_with fail
      refine (within q 1 6 _ true HQ.out).mono ?_
      rintro e w1 ⟨rfl, rfl⟩
      go_wp2_with fail
      go_ret
      exact ⟨rfl, HB0.out⟩
end Go.Proofs.Ytkgbcoijkmlmnaa.K
