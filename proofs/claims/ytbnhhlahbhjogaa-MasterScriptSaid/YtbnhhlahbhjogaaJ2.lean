/- Programs and lists of pairs that may be. -/
import Derived.Test.YtbnhhlahbhjogaaJ1
set_option linter.unusedVariables false
set_option linter.unusedSimpArgs false
namespace Go.Proofs.Ytbnhhlahbhjogaa.K
open Go.RowKit Go.Proofs.YtbnhhlahbhjogaaW.PrintWords Go.Proofs.YtbnhhlahbhjogaaW.PrintLast Go.Proofs.YtbnhhlahbhjogaaW.PrintMore Go.Proofs.Ytbnhhlahbhjogaa.U Go.Proofs.Ytbnhhlahbhjogaa.T
attribute [local go_sem] max2_int min2_int

theorem two_andj (w w1 w2 : World) (h : Below w.heap.size w w1) (k : Below w1.heap.size w1 w2) : Below w.heap.size w w2 := below_then h h.size k
/-- May a program be? -/
def CodeMay (p : List InsD) : Prop := p.length ≤ 40 ∧ ∀ x ∈ p, MayI x p.length
instance (p : List InsD) : Decidable (CodeMay p) := by unfold CodeMay; infer_instance
/-- May pairs be? -/
def PairsMay (l : List PairD) : Prop := ∀ x ∈ l, x.key.size ≤ 16 ∧ x.val.size ≤ 64
instance (l : List PairD) : Decidable (PairsMay l) := by unfold PairsMay; infer_instance

set_option maxRecDepth 10000 in
set_option maxHeartbeats 1600000 in
theorem bad (A0 : Option Addr) (c0 : Nat) (l0 : List InsD) (w : World) (hr0 : Kd.C kIns w A0 l0.length l0) (hc0 : l0.length ≤ c0) :
    Calls Try.prog 85 #[.slice A0 l0.length c0] w fun e w' => ∃ b : Int, e = .returned (.int .i64 b) ∧ Aside0 (b < 0 ↔ CodeMay l0) ∧ Below w.heap.size w w' := by
  have hm0 := Kd.C_max hr0
  have HR0 := Aside0.mk hr0
  have hu := Try.underlying115
  clear hr0
  obtain ⟨m, hm⟩ : ∃ m : Nat, m = min l0.length 40 := ⟨_, rfl⟩
  have hml : m ≤ l0.length := by omega
  have HM := Aside0.mk hm
  have hif : (if (40 : Int) < l0.length then (40 : Int) else l0.length) = m := by split <;> omega
  clear hm
  go_enter Try.func85, Try.ntmps85
  go_wp2_with fail
  go_loopg [11] m (fun kq v w' => ∃ k : Nat, k + kq = m ∧ v = .int .i64 k ∧ Aside0 (∀ j (hj : j < l0.length), j < k → MayI l0[j] l0.length) ∧ Aside0 (Below w.heap.size w w'))
  case atStart => exact ⟨0, by omega, rfl, ⟨fun j hj h => by omega⟩, ⟨Below.refl _ _⟩⟩
  case round =>
    obtain ⟨k, hk, rfl, HA, HB⟩ := hrel
    by_cases hlt : k < m
    · obtain ⟨ad, rfl, hx0, hx1, hx2⟩ := at_ins (Kd.C_below HR0.out HB.out) k (by omega)
      obtain ⟨x, hx⟩ : ∃ x, x = l0[k] := ⟨_, rfl⟩
      rw [← hx] at hx0 hx1 hx2
      have HX := Aside0.mk hx
      obtain ⟨op, a, s⟩ := x
      have hk40 : (k : Int) < 40 := by have := HM.out; omega
      have hkl : (k : Int) < l0.length := by omega
      clear hx
      by_cases hmay : MayI ⟨op, a, s⟩ l0.length
      · have HRR := Aside0.mk (decide_eq_true hmay).symm
        have HMAY := Aside0.mk hmay
        clear hmay
        go_wp2_with fail
        refine (mayIns op a s l0.length true _ HRR.out).mono ?_
        rintro e w1 ⟨rfl, hb1⟩
        have HB1 := Aside0.mk (two_andj _ _ _ (HB.out.alloc HB.out.size _) hb1)
        clear hb1
        go_wp2_with fail
        go_roundg (m - (k + 1))
        case measure => omega
        case rel => exact ⟨k + 1, by omega, by go_num, ⟨fun j hj h => by
            rcases Nat.lt_or_ge j k with h1 | h1
            · exact HA.out j hj h1
            · obtain rfl : j = k := by omega
              rw [← HX.out]
              exact HMAY.out⟩, HB1⟩
      · have HRR := Aside0.mk (decide_eq_false hmay).symm
        have HMAY := Aside0.mk hmay
        clear hmay
        go_wp2_with fail
        refine (mayIns op a s l0.length false _ HRR.out).mono ?_
        rintro e w1 ⟨rfl, hb1⟩
        have HB1 := Aside0.mk (two_andj _ _ _ (HB.out.alloc HB.out.size _) hb1)
        clear hb1
        go_wp2_with fail
        go_ret
        exact ⟨(k : Int), rfl, ⟨by constructor <;> intro h; omega; exact absurd (h.2 _ (List.getElem_mem (show k < l0.length by omega))) (by rw [← HX.out]; exact HMAY.out)⟩, HB1.out⟩
    · obtain rfl : k = m := by omega
      by_cases h40 : 40 < l0.length
      · have hk40 : (40 : Int) ≤ k := by have := HM.out; omega
        have hkl2 : (k : Int) < l0.length := by have := HM.out; omega
        go_wp2_with fail
        go_ret
        refine ⟨_, rfl, ⟨?_⟩, HB.out⟩
        exact ⟨fun h => absurd h (by decide), fun h => absurd h.1 (by omega)⟩
      · have hkl : (l0.length : Int) ≤ k := by have := HM.out; omega
        go_wp2_with fail
        go_ret
        refine ⟨_, rfl, ⟨?_⟩, HB.out⟩
        refine ⟨fun _ => ⟨by omega, fun x hx => ?_⟩, fun _ => by decide⟩
        obtain ⟨j, hj, rfl⟩ := List.getElem_of_mem hx
        exact HA.out j hj (by have := HM.out; omega)
set_option maxRecDepth 10000 in
set_option maxHeartbeats 1600000 in
theorem refBad (A0 : Option Addr) (c0 : Nat) (l0 : List InsD) (w : World) (hr0 : Kd.C kIns w A0 l0.length l0) (hc0 : l0.length ≤ c0) :
    Calls Try.prog 91 #[.slice A0 l0.length c0] w fun e w' => ∃ b : Int, e = .returned (.int .i64 b) ∧ Aside0 (b < 0 ↔ CodeMay l0) ∧ Below w.heap.size w w' := by
  have hm0 := Kd.C_max hr0
  have HR0 := Aside0.mk hr0
  have hu := Try.underlying115
  clear hr0
  obtain ⟨m, hm⟩ : ∃ m : Nat, m = min l0.length 40 := ⟨_, rfl⟩
  have hml : m ≤ l0.length := by omega
  have HM := Aside0.mk hm
  clear hm
  go_enter Try.func91, Try.ntmps91
  go_wp2_with fail
  go_loopg [3] m (fun kq v w' => ∃ k : Nat, k + kq = m ∧ v = .int .i64 k ∧ Aside0 (∀ j (hj : j < l0.length), j < k → MayI l0[j] l0.length) ∧ Aside0 (Below w.heap.size w w'))
  case atStart => exact ⟨0, by omega, rfl, ⟨fun j hj h => by omega⟩, ⟨Below.refl _ _⟩⟩
  case round =>
    obtain ⟨k, hk, rfl, HA, HB⟩ := hrel
    by_cases hlt : k < m
    · obtain ⟨ad, rfl, hx0, hx1, hx2⟩ := at_ins (Kd.C_below HR0.out HB.out) k (by omega)
      obtain ⟨x, hx⟩ : ∃ x, x = l0[k] := ⟨_, rfl⟩
      rw [← hx] at hx0 hx1 hx2
      have HX := Aside0.mk hx
      obtain ⟨op, a, s⟩ := x
      have hk40 : (k : Int) < 40 := by have := HM.out; omega
      have hkl : (k : Int) < l0.length := by omega
      clear hx
      by_cases hmay : MayI ⟨op, a, s⟩ l0.length
      · have HRR := Aside0.mk (decide_eq_true hmay).symm
        have HMAY := Aside0.mk hmay
        clear hmay
        go_wp2_with fail
        refine (good op a s l0.length true _ HRR.out).mono ?_
        rintro e w1 ⟨rfl, hb1⟩
        have HB1 := Aside0.mk (two_andj _ _ _ HB.out hb1)
        clear hb1
        go_wp2_with fail
        go_roundg (m - (k + 1))
        case measure => omega
        case rel => exact ⟨k + 1, by omega, by go_num, ⟨fun j hj h => by
            rcases Nat.lt_or_ge j k with h1 | h1
            · exact HA.out j hj h1
            · obtain rfl : j = k := by omega
              rw [← HX.out]
              exact HMAY.out⟩, HB1⟩
      · have HRR := Aside0.mk (decide_eq_false hmay).symm
        have HMAY := Aside0.mk hmay
        clear hmay
        go_wp2_with fail
        refine (good op a s l0.length false _ HRR.out).mono ?_
        rintro e w1 ⟨rfl, hb1⟩
        have HB1 := Aside0.mk (two_andj _ _ _ HB.out hb1)
        clear hb1
        go_wp2_with fail
        go_ret
        exact ⟨(k : Int), rfl, ⟨by constructor <;> intro h; omega; exact absurd (h.2 _ (List.getElem_mem (show k < l0.length by omega))) (by rw [← HX.out]; exact HMAY.out)⟩, HB1.out⟩
    · obtain rfl : k = m := by omega
      by_cases h40 : 40 < l0.length
      · have hk40 : (40 : Int) ≤ k := by have := HM.out; omega
        have hkl2 : (k : Int) < l0.length := by have := HM.out; omega
        go_wp2_with fail
        go_ret
        refine ⟨_, rfl, ⟨?_⟩, HB.out⟩
        exact ⟨fun h => absurd h (by decide), fun h => absurd h.1 (by omega)⟩
      · have hkl : (l0.length : Int) ≤ k := by have := HM.out; omega
        go_wp2_with fail
        go_ret
        refine ⟨_, rfl, ⟨?_⟩, HB.out⟩
        refine ⟨fun _ => ⟨by omega, fun x hx => ?_⟩, fun _ => by decide⟩
        obtain ⟨j, hj, rfl⟩ := List.getElem_of_mem hx
        exact HA.out j hj (by have := HM.out; omega)
theorem progMay (A0 : Option Addr) (c0 : Nat) (l0 : List InsD) (w : World) (hr0 : Kd.C kIns w A0 l0.length l0) (hc0 : l0.length ≤ c0) (r : Bool) (hr : r = decide (CodeMay l0)) :
    Calls Try.prog 63 #[.slice A0 l0.length c0] w fun e w' => e = .returned (.bool r) ∧ Below w.heap.size w w' := by
  have hm0 := Kd.C_max hr0
  have HR0 := Aside0.mk hr0
  have HR := Aside0.mk hr
  clear hr0 hr
  go_enter Try.func63, Try.ntmps63
  go_wp2_with fail
  refine (bad A0 c0 l0 w HR0.out hc0).mono ?_
  rintro e w1 ⟨b, rfl, HBB, hb1⟩
  have HB1 := Aside0.mk hb1
  clear hb1
  go_wp2_with fail
  go_ret
  exact ⟨congrArg (fun b => Ending.returned (.bool b)) (show decide (b < 0) = r by rw [HR.out]; exact decide_eq_decide.2 HBB.out), HB1.out⟩
theorem runs (A0 : Option Addr) (c0 : Nat) (l0 : List InsD) (w : World) (hr0 : Kd.C kIns w A0 l0.length l0) (hc0 : l0.length ≤ c0) (r : Bool) (hr : r = decide (l0.length ≠ 0 ∧ CodeMay l0)) :
    Calls Try.prog 62 #[.slice A0 l0.length c0] w fun e w' => e = .returned (.bool r) ∧ Below w.heap.size w w' := by
  have hm0 := Kd.C_max hr0
  have HR0 := Aside0.mk hr0
  by_cases h0 : l0.length = 0
  · have HR : Aside0 (r = false) := ⟨by rw [hr]; exact decide_eq_false (fun h => h.1 h0)⟩
    have hd : ¬ (0 : Int) < l0.length := by omega
    clear hr0 hr h0
    go_enter Try.func62, Try.ntmps62
    go_wp2_with fail
    go_ret
    exact ⟨by rw [HR.out]; rfl, Below.refl _ _⟩
  · have HR : Aside0 (r = decide (CodeMay l0)) := ⟨by rw [hr]; exact decide_eq_decide.2 ⟨fun h => h.2, fun h => ⟨h0, h⟩⟩⟩
    have hd : (0 : Int) < l0.length := by omega
    clear hr0 hr h0
    go_enter Try.func62, Try.ntmps62
    go_wp2_with fail
    refine (progMay A0 c0 l0 w HR0.out hc0 r HR.out).mono ?_
    rintro e w1 ⟨rfl, hb1⟩
    have HB1 := Aside0.mk hb1
    clear hb1
    go_wp2_with fail
    go_ret
    exact ⟨rfl, HB1.out⟩
theorem badPair (a b : ByteArray) (w : World) (r : Bool) (hr : r = decide (¬ (a.size ≤ 16 ∧ b.size ≤ 64))) : Calls Try.prog 84 #[.agg #[.string a, .string b]] w fun e w' => e = .returned (.bool r) ∧ Below w.heap.size w w' := by
  by_cases h1 : a.size ≤ 16 <;> by_cases h2 : b.size ≤ 64
  · have HR : Aside0 (r = false) := ⟨by rw [hr]; simp [h1, h2]⟩
    have h3 : ¬ (16 : Int) < a.size := by omega
    have h4 : ¬ (64 : Int) < b.size := by omega
    clear hr h1 h2
    go_enter Try.func84, Try.ntmps84
    go_wp2_with fail
    go_ret
    exact ⟨by rw [HR.out]; rfl, (Below.refl _ _).alloc (Nat.le_refl _) _⟩
  · have HR : Aside0 (r = true) := ⟨by rw [hr]; simp [h2]⟩
    have h3 : ¬ (16 : Int) < a.size := by omega
    have h4 : (64 : Int) < b.size := by omega
    clear hr h1 h2
    go_enter Try.func84, Try.ntmps84
    go_wp2_with fail
    go_ret
    exact ⟨by rw [HR.out]; rfl, (Below.refl _ _).alloc (Nat.le_refl _) _⟩
  all_goals
    have HR : Aside0 (r = true) := ⟨by rw [hr]; simp [h1]⟩
    have h3 : (16 : Int) < a.size := by omega
    clear hr h1 h2
    go_enter Try.func84, Try.ntmps84
    go_wp2_with fail
    go_ret
    exact ⟨by rw [HR.out]; rfl, (Below.refl _ _).alloc (Nat.le_refl _) _⟩
set_option maxRecDepth 10000 in
set_option maxHeartbeats 1600000 in
theorem indexBad (A0 : Option Addr) (c0 : Nat) (l0 : List PairD) (w : World) (hr0 : Kd.C kPair w A0 l0.length l0) :
    Calls Try.prog 94 #[.slice A0 l0.length c0, .func (.func 84) #[] #[]] w fun e w' => ∃ b : Int, e = .returned (.int .i64 b) ∧ Aside0 (b < 0 ↔ PairsMay l0) ∧ Below w.heap.size w w' := by
  have hm0 := Kd.C_max hr0
  have HR0 := Aside0.mk hr0
  have hu := Try.underlying113
  clear hr0
  go_enter Try.func94, Try.ntmps94
  go_wp2_with fail
  go_loopg [8] l0.length (fun kq v w' => ∃ k : Nat, k + kq = l0.length ∧ v = .int .i64 k ∧ Aside0 (∀ j (hj : j < l0.length), j < k → l0[j].key.size ≤ 16 ∧ l0[j].val.size ≤ 64) ∧ Aside0 (Below w.heap.size w w'))
  case atStart => exact ⟨0, by omega, rfl, ⟨fun j hj h => by omega⟩, ⟨Below.refl _ _⟩⟩
  case round =>
    obtain ⟨k, hk, rfl, HA, HB⟩ := hrel
    by_cases hlt : k < l0.length
    · obtain ⟨ad, rfl, hx0, hx1⟩ := at_pair2 (Kd.C_below HR0.out HB.out) k hlt
      obtain ⟨x, hx⟩ : ∃ x, x = l0[k] := ⟨_, rfl⟩
      rw [← hx] at hx0 hx1
      have HX := Aside0.mk hx
      obtain ⟨a, b⟩ := x
      clear hx
      by_cases hmay : a.size ≤ 16 ∧ b.size ≤ 64
      · have HRR : Aside0 (false = decide (¬ (a.size ≤ 16 ∧ b.size ≤ 64))) := ⟨(decide_eq_false (fun h => h hmay)).symm⟩
        have HMAY := Aside0.mk hmay
        clear hmay
        go_wp2_with fail
        refine (badPair a b _ false HRR.out).mono ?_
        rintro e w1 ⟨rfl, hb1⟩
        have HB1 := Aside0.mk (two_andj _ _ _ HB.out hb1)
        clear hb1
        go_wp2_with fail
        go_roundg (l0.length - (k + 1))
        case measure => omega
        case rel => exact ⟨k + 1, by omega, by go_num, ⟨fun j hj h => by
            rcases Nat.lt_or_ge j k with h1 | h1
            · exact HA.out j hj h1
            · obtain rfl : j = k := by omega
              rw [← HX.out]
              exact HMAY.out⟩, HB1⟩
      · have HRR : Aside0 (true = decide (¬ (a.size ≤ 16 ∧ b.size ≤ 64))) := ⟨(decide_eq_true hmay).symm⟩
        have HMAY := Aside0.mk hmay
        clear hmay
        go_wp2_with fail
        refine (badPair a b _ true HRR.out).mono ?_
        rintro e w1 ⟨rfl, hb1⟩
        have HB1 := Aside0.mk (two_andj _ _ _ HB.out hb1)
        clear hb1
        go_wp2_with fail
        go_ret
        exact ⟨(k : Int), rfl, ⟨by constructor <;> intro h; omega; exact absurd (h _ (List.getElem_mem hlt)) (by rw [← HX.out]; exact HMAY.out)⟩, HB1.out⟩
    · obtain rfl : k = l0.length := by omega
      go_wp2_with fail
      go_ret
      refine ⟨_, rfl, ⟨?_⟩, HB.out⟩
      refine ⟨fun _ x hx => ?_, fun _ => by decide⟩
      obtain ⟨j, hj, rfl⟩ := List.getElem_of_mem hx
      exact HA.out j hj hj
theorem pairMay (A0 : Option Addr) (c0 : Nat) (l0 : List PairD) (w : World) (hr0 : Kd.C kPair w A0 l0.length l0) (r : Bool) (hr : r = decide (PairsMay l0)) :
    Calls Try.prog 61 #[.slice A0 l0.length c0] w fun e w' => e = .returned (.bool r) ∧ Below w.heap.size w w' := by
  have hm0 := Kd.C_max hr0
  have HR0 := Aside0.mk hr0
  have HR := Aside0.mk hr
  clear hr0 hr
  have hcon : Calls Try.prog 83 #[.slice A0 l0.length c0, .func (.func 84) #[] #[]] w fun e w' => e = .returned (.bool (!r)) ∧ Below w.heap.size w w' := by
    go_enter Try.func83, Try.ntmps83
    go_wp2_with fail
    refine (indexBad A0 c0 l0 w HR0.out).mono ?_
    rintro e w1 ⟨b, rfl, HBB, hb1⟩
    have HB1 := Aside0.mk hb1
    clear hb1
    go_wp2_with fail
    go_ret
    refine ⟨congrArg (fun b => Ending.returned (.bool b)) (show decide (0 ≤ b) = !r from ?_), HB1.out⟩
    have h := HBB.out
    rw [HR.out]
    by_cases hp : PairsMay l0
    · rw [decide_eq_true hp, decide_eq_false (by have := h.2 hp; omega)]; rfl
    · rw [decide_eq_false hp, decide_eq_true (by rcases Int.lt_or_le b 0 with h1 | h1; exact absurd (h.1 h1) hp; exact h1)]; rfl
  have HC := Aside0.mk hcon
  clear hcon
  go_enter Try.func61, Try.ntmps61
  go_wp2_with fail
  refine HC.out.mono ?_
  rintro e w1 ⟨rfl, hb1⟩
  have HB1 := Aside0.mk hb1
  clear hb1
  cases r
  all_goals
    go_wp2_with fail
    go_ret
    exact ⟨rfl, HB1.out⟩
end Go.Proofs.Ytbnhhlahbhjogaa.K
