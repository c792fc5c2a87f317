/- Counters: the program's calls. -/
import Derived.Test.YtbnhhlahbhjogaaTA1
set_option linter.unusedVariables false
set_option linter.unusedSimpArgs false
namespace Go.Proofs.Ytbnhhlahbhjogaa.K
open Go.RowKit Go.Proofs.YtbnhhlahbhjogaaW.PrintWords Go.Proofs.YtbnhhlahbhjogaaW.PrintLast Go.Proofs.YtbnhhlahbhjogaaW.PrintMore Go.Proofs.Ytbnhhlahbhjogaa.U Go.Proofs.Ytbnhhlahbhjogaa.T

theorem tNew (w : World) : Calls Try.prog 42 #[] w fun e w' => e = .returned (.pointer (some ⟨w.heap.size, 0, none⟩)) ∧ TallyR 129 w' w.heap.size w.heap.size [0, 0, 0, 0, 0, 0, 0, 0] ∧ Below w.heap.size w w' := by
  go_enter Try.func42, Try.ntmps42
  go_wp2_with fail
  go_ret
  exact ⟨rfl, ⟨Nat.le_refl _, alloc_at w _, rfl, by decide⟩, (Below.refl _ _).alloc (Nat.le_refl _) _⟩
/-- What the call's own variable changes. -/
theorem cap_facts {base g : Nat} {C : List Int} {w : World} (h : TallyR 129 w base g C) (n : Int) :
    ∃ w1, w1 = w.alloc (.cells #[.int .i64 n] 3) ∧ TallyR 129 w1 base g C ∧ w1.cell? ⟨w.heap.size, 0, none⟩ = some (.int .i64 n) ∧ Ch w w1 (fun k => k = g) :=
  have hb : Below w.heap.size w (w.alloc (.cells #[.int .i64 n] 3)) := (Below.refl _ _).alloc (Nat.le_refl _) _
  ⟨_, rfl, h.below hb, cell_of_blk (cs := [.int .i64 n]) (alloc_at w _), Ch.of_below hb _⟩
theorem tAdd (base g k : Nat) (hk : k < 8) (C : List Int) (n m : Int) (w : World) (h : TallyR 129 w base g C) (hm : m = min (rd C k + addN n) 1099511627776) :
    Calls Try.prog 44 #[.pointer (some ⟨g, 0, none⟩), .int .i64 k, .int .i64 n] w fun e w' => e = .returned (.int .i64 m) ∧ TallyR 129 w' base g (C.set k m) ∧ Ch w w' (fun k => k = g) := by
  have hmf : ∀ (fn : Fn) (first cap : Array Value) (w : World), (Instr.makeFunc fn first cap).run Try.prog w = .ok (.func fn first cap) w := fun _ _ _ _ => rfl
  have hrr := h.rd_rng k hk
  obtain ⟨x, hx⟩ : ∃ x, x = rd C k := ⟨_, rfl⟩
  rw [← hx] at hm hrr
  obtain ⟨hr0, hr1⟩ := hrr
  obtain ⟨n1, hn1⟩ : ∃ n1, n1 = addN n := ⟨_, rfl⟩
  rw [← hn1] at hm
  obtain ⟨w1, hw1, hd1, hp1, hc1⟩ := cap_facts h n1
  have HM := Aside0.mk hm
  have HX := Aside0.mk hx
  have HD1 := Aside0.mk hd1
  have HC1 := Aside0.mk hc1
  have HW1 := Aside0.mk hw1
  have HP1 := Aside0.mk hp1
  have H2 : ∀ k', k' = k → k' < 8 := by omega
  by_cases h0 : n < 0
  · have hn2 : n1 = 0 := by rw [hn1]; unfold addN; first | rw [if_pos (by omega)] | rw [if_neg (by omega)]
    have hl : n1 ≤ 1099511627776 := by omega
    have hl0 : 0 ≤ n1 := by omega
    rw [hn2] at HW1
    clear hd1 hc1 hw1 hp1 hm hx hn1 h H2 hr0 hr1
    go_enter Try.func44, Try.ntmps44
    go_wp2_with fail
    rw [← HW1.out]
    refine (tAt g k hk w1).mono ?_
    rintro e w2 ⟨rfl, rfl⟩
    go_wp2_with fail
    refine (change_add _ base g k hk C _ n1 x m _ HD1.out HP1.out hl0 hl HX.out HM.out).mono ?_
    rintro e w2 ⟨rfl, hd2, hc2⟩
    have HD2 := Aside0.mk hd2
    have HC2 := Aside0.mk hc2
    clear hd2 hc2
    go_wp2_with fail
    go_ret
    exact ⟨rfl, HD2.out, HC1.out.trans HC2.out (fun _ _ h => h)⟩
  · by_cases h1 : n > 1099511627776
    · have hn2 : n1 = 0 := by rw [hn1]; unfold addN; first | rw [if_pos (by omega)] | rw [if_neg (by omega)]
      have hl : n1 ≤ 1099511627776 := by omega
      have hl0 : 0 ≤ n1 := by omega
      rw [hn2] at HW1
      clear hd1 hc1 hw1 hp1 hm hx hn1 h H2 hr0 hr1
      go_enter Try.func44, Try.ntmps44
      go_wp2_with fail
      rw [← HW1.out]
      refine (tAt g k hk w1).mono ?_
      rintro e w2 ⟨rfl, rfl⟩
      go_wp2_with fail
      refine (change_add _ base g k hk C _ n1 x m _ HD1.out HP1.out hl0 hl HX.out HM.out).mono ?_
      rintro e w2 ⟨rfl, hd2, hc2⟩
      have HD2 := Aside0.mk hd2
      have HC2 := Aside0.mk hc2
      clear hd2 hc2
      go_wp2_with fail
      go_ret
      exact ⟨rfl, HD2.out, HC1.out.trans HC2.out (fun _ _ h => h)⟩
    · have hn2 : n1 = n := by rw [hn1]; unfold addN; first | rw [if_pos (by omega)] | rw [if_neg (by omega)]
      have hl : n1 ≤ 1099511627776 := by omega
      have hl0 : 0 ≤ n1 := by omega
      rw [hn2] at HW1
      clear hd1 hc1 hw1 hp1 hm hx hn1 h H2 hr0 hr1
      go_enter Try.func44, Try.ntmps44
      go_wp2_with fail
      rw [← HW1.out]
      refine (tAt g k hk w1).mono ?_
      rintro e w2 ⟨rfl, rfl⟩
      go_wp2_with fail
      refine (change_add _ base g k hk C _ n1 x m _ HD1.out HP1.out hl0 hl HX.out HM.out).mono ?_
      rintro e w2 ⟨rfl, hd2, hc2⟩
      have HD2 := Aside0.mk hd2
      have HC2 := Aside0.mk hc2
      clear hd2 hc2
      go_wp2_with fail
      go_ret
      exact ⟨rfl, HD2.out, HC1.out.trans HC2.out (fun _ _ h => h)⟩
end Go.Proofs.Ytbnhhlahbhjogaa.K
