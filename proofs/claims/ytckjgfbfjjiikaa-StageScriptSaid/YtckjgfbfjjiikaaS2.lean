/- Pairs cloned; lists of pairs put one behind the other. -/
import Derived.Test.YtckjgfbfjjiikaaKQ2
import Derived.Test.YtckjgfbfjjiikaaKR
import Derived.Test.YtckjgfbfjjiikaaWZeros
import Derived.WalkSpells
set_option linter.unusedVariables false
set_option linter.unusedSimpArgs false
namespace Go.Proofs.Ytckjgfbfjjiikaa.K
open Go.RowKit Go.Proofs.YtckjgfbfjjiikaaW.PrintWords Go.Proofs.YtckjgfbfjjiikaaW.PrintLast Go.Proofs.YtckjgfbfjjiikaaW.PrintMore Go.Proofs.Ytckjgfbfjjiikaa.U Go.Proofs.Ytckjgfbfjjiikaa.T
attribute [local go_sem high] eqA_pair

theorem own_empty {α : Type} {d : Kd α} {e : TypeId} {w : World} : Own d e (w.alloc (.cells #[] e)) w.heap.size (.slice (some ⟨w.heap.size, 0, none⟩) 0 0) [] :=
  ⟨fun _ _ => trivial, [], ⟨by simp, .inr ⟨w.heap.size, 0, #[], rfl, Nat.le_refl _, alloc_at w _, Nat.le_refl _, by unfold maxLen; omega, by simp, by simp⟩⟩, Reps.none _ _⟩

set_option maxHeartbeats 800000 in
theorem clone (A0 : Option Addr) (c0 : Nat) (l0 : List PairD) (w : World) (hr0 : Kd.C kPair w A0 l0.length l0) (hl : l0.length ≤ 100000000) :
    Calls Try.prog 58 #[.slice A0 l0.length c0] w fun e w' => ∃ v, e = .returned v ∧ Own kPair 80 w' w.heap.size v l0 ∧ Below w.heap.size w w' := by
  have HR0 := Aside0.mk hr0
  have heq : ∀ w A n c, (binOp .eql 45 (.slice A n c) (.slice none 0 0)).run Try.prog w = .ok (.bool A.isNone) w := fun w A n c => Lib.run_eql_slice_nil w 45 80 A n c 0 0 Try.underlying45
  cases A0 with
  | none =>
    have h0 : l0 = [] := by
      rcases Nat.eq_zero_or_pos l0.length with h | h
      · exact List.eq_nil_of_length_eq_zero h
      · obtain ⟨ad, e, _⟩ := hr0.2.2 h
        cases e
    subst h0
    go_enter Try.func58, Try.ntmps58
    go_wp2_with fail
    go_ret
    exact ⟨_, rfl, Own.nil _ _ _ _, Below.refl _ _⟩
  | some ad =>
    clear hr0
    have hba : Below w.heap.size w (w.alloc (.cells #[] 80)) := (Below.refl _ _).alloc (Nat.le_refl _) _
    go_enter Try.func58, Try.ntmps58
    go_wp2_with (at_builtin; refine wpList_append_runs rfl _ _ _ _ rfl _ _ rfl rfl (append_own_runs Try.prog flat_pair 45 _ _ 32 Try.underlying45 info_pair rfl (by decide) (own_empty (d := kPair) (e := 80) (w := w)) (some ad) l0.length c0 rfl (Kd.C_below HR0.out hba) hba.size (by simp; omega) (by simp; omega)) ?_; rintro v2 w2 ⟨hv2, hg2⟩; have HV2 := Aside0.mk hv2; have HG2 := Aside0.mk hg2; clear hv2 hg2)
    go_ret
    exact ⟨_, rfl, HV2.out, hba.grown HG2.out hba.size (fun k hk => by cases hk; exact Nat.le_refl _)⟩
set_option maxHeartbeats 800000 in
theorem grow (n : Int) (w : World) (h0 : 0 ≤ n) (h1 : n ≤ 100000000) :
    Calls Try.prog 77 #[.slice none 0 0, .int .i64 n] w fun e w' => ∃ v, e = .returned v ∧ Own kPair 80 w' w.heap.size v [] ∧ Below w.heap.size w w' := by
  by_cases h2 : n = 0
  · subst h2
    go_enter Try.func77, Try.ntmps77
    go_wp2_with fail
    go_ret
    exact ⟨_, rfl, Own.nil _ _ _ _, Below.refl _ _⟩
  · have hz := Kd.R_zeros_run (P := Try.prog) kPair (W := w) w.heap.size 45 3 45 80 (.agg #[.string ⟨#[]⟩, .string ⟨#[]⟩]) 32 Try.underlying45 (k := .i64) Try.underlying3 info_pair rfl (by decide) (by decide) (.slice none 0 0) [] zeroP (ok := fun _ => True) (kPair_mkM _ _ _ zeroP) (fun _ _ => trivial) (Own.nil kPair _ w _) .i64 n h0 (by simp; omega) (Nat.le_refl _)
    obtain ⟨v1, w1, hrun, hv1, hg1, _⟩ := hz
    obtain ⟨A1, c1, rfl, hc1, _⟩ := Own.reads (show Own kPair 80 w1 w.heap.size v1 _ from hv1)
    have HV1 := Aside0.mk (Kd.R_take hv1 (Nat.zero_le _))
    have HB1 := Aside0.mk ((Below.refl w.heap.size w).grown hg1 (Nat.le_refl _) (fun k hk => by cases hk))
    have HRUN := Aside0.mk hrun
    obtain ⟨l, hl⟩ : ∃ l : Nat, l = ([] ++ List.replicate n.toNat zeroP).length := ⟨_, rfl⟩
    rw [← hl] at HRUN hc1
    clear hv1 hg1 hrun hl
    go_enter Try.func77, Try.ntmps77
    go_wp2_with (at_builtin; refine wpList_append_runs (R := fun v w' => v = .slice A1 l c1 ∧ w' = w1) rfl _ _ _ _ rfl _ _ rfl rfl ⟨_, _, HRUN.out, rfl, rfl⟩ ?_; rintro _ w3 ⟨rfl, hw3⟩; have HW3 := Aside0.mk hw3; clear hw3 HRUN)
    all_goals (obtain rfl := HW3.out)
    go_ret
    exact ⟨_, rfl, HV1.out, HB1.out⟩

theorem flat_take (xss : List (List PairD)) (k : Nat) (h : k < xss.length) : (xss.take (k + 1)).flatten = (xss.take k).flatten ++ xss[k] := by
  rw [List.take_succ_eq_append_getElem h, List.flatten_append]
  simp
theorem flat_take_le (xss : List (List PairD)) (k : Nat) : (xss.take k).flatten.length ≤ xss.flatten.length := by
  rw [← List.take_append_drop k xss, List.flatten_append, List.length_append]
  simp

set_option maxHeartbeats 1600000 in
theorem concat (A0 : Option Addr) (c0 : Nat) (xss : List (List PairD)) (w : World) (hr0 : Kd.C kRows w A0 xss.length xss) (hl : xss.flatten.length ≤ 100000000) :
    Calls Try.prog 70 #[.slice A0 xss.length c0] w fun e w' => ∃ v, e = .returned v ∧ Own kPair 80 w' w.heap.size v xss.flatten ∧ Below w.heap.size w w' := by
  have hm0 := Kd.C_max hr0
  have HR0 := Aside0.mk hr0
  clear hr0
  go_enter Try.func70, Try.ntmps70
  go_wp2_with fail
  go_loopg [3, 11] xss.length (fun kq v3 v11 w' => ∃ (k s : Nat), k + kq = xss.length ∧ v11 = .int .i64 k ∧ v3 = .int .i64 s ∧ Aside0 (s = (xss.take k).flatten.length) ∧ Drawn0 w w')
  case atStart => exact ⟨0, 0, by omega, rfl, rfl, ⟨rfl⟩, Drawn0.refl _⟩
  case round =>
    obtain ⟨k, s, hk, rfl, rfl, HS, ⟨m1, rfl⟩⟩ := hrel
    by_cases hlt : k < xss.length
    · obtain ⟨ad, A1, c1, rfl, hx0, hle, hC⟩ := at_rows HR0.out k hlt
      obtain ⟨l1, hl1⟩ : ∃ l1, l1 = xss[k] := ⟨_, rfl⟩
      rw [← hl1] at hx0 hle
      have hsum : s + l1.length = (xss.take (k + 1)).flatten.length := by rw [flat_take _ _ hlt, List.length_append, HS.out, hl1]
      have hsm : s + l1.length ≤ 100000000 := by rw [hsum]; exact Nat.le_trans (flat_take_le _ _) hl
      have HSUM := Aside0.mk hsum
      clear hsum hl1 hC
      go_wp2_with fail
      go_roundg (xss.length - (k + 1))
      case measure => omega
      case rel => exact ⟨k + 1, s + l1.length, by omega, by go_num, by go_num, HSUM, by repeat (first | exact Drawn0.refl _ | apply Drawn0.step)⟩
    · obtain rfl : k = xss.length := by omega
      have hs : s = xss.flatten.length := by rw [HS.out, List.take_length]
      have hsm : s ≤ 100000000 := by omega
      clear hs HS
      go_wp2_with fail
      refine (grow s _ (by omega) (by omega)).mono ?_
      rintro e w1 ⟨v1, rfl, hv1, hb1⟩
      have HV1 := Aside0.mk (Own.lower (base' := w.heap.size) hv1 (by exact Nat.le_refl _))
      have HB1 := Aside0.mk ((Drawn0.step (Drawn0.refl w) m1).below.trans hb1)
      clear hv1 hb1
      go_wp2_with fail
      go_loopg [6, 27] xss.length (fun kq v6 v27 w' => ∃ (k : Nat) (X : List PairD), k + kq = xss.length ∧ v27 = .int .i64 k ∧ Aside0 (X = (xss.take k).flatten) ∧ Aside0 (Own kPair 80 w' w.heap.size v6 X) ∧ Aside0 (Below w.heap.size w w'))
      case atStart => exact ⟨0, [], by omega, rfl, ⟨rfl⟩, HV1, HB1⟩
      case round =>
        clear HV1 HB1
        obtain ⟨k, X, hk, rfl, HX, HV, HB⟩ := hrel
        by_cases hlt : k < xss.length
        · obtain ⟨ad, A1, c1, rfl, hx0, hle, hC⟩ := at_rows (Kd.C_below HR0.out HB.out) k hlt
          obtain ⟨l1, hl1⟩ : ∃ l1, l1 = xss[k] := ⟨_, rfl⟩
          rw [← hl1] at hx0 hle hC
          have HC := Aside0.mk hC
          have hsum : X ++ l1 = (xss.take (k + 1)).flatten := by rw [flat_take _ _ hlt, HX.out, hl1]
          have hsm : X.length + l1.length ≤ 100000000 := by rw [← List.length_append, hsum]; exact Nat.le_trans (flat_take_le _ _) hl
          have HSUM := Aside0.mk hsum
          have hbase := HB.out.size
          clear hsum hl1 hC
          go_wp2_with (at_builtin; refine wpList_append_runs rfl _ _ _ _ rfl _ _ rfl rfl (append_own_runs Try.prog flat_pair 45 _ _ 32 Try.underlying45 info_pair rfl (by decide) HV.out A1 l1.length c1 rfl HC.out hbase (by omega) (by omega)) ?_; rintro v2 w2 ⟨hv2, hg2⟩; have HV2 := Aside0.mk hv2; have HG2 := Aside0.mk hg2; clear hv2 hg2)
          have HB2 := Aside0.mk (HB.out.grown HG2.out hbase (fun k hk => HV.out.base_ k hk))
          go_roundg (xss.length - (k + 1))
          case measure => omega
          case rel => exact ⟨k + 1, X ++ l1, by omega, by go_num, HSUM, HV2, HB2⟩
        · obtain rfl : k = xss.length := by omega
          have hX : X = xss.flatten := by rw [HX.out, List.take_length]
          have HV' : Aside0 (Own kPair 80 wr w.heap.size _ xss.flatten) := ⟨by rw [← hX]; exact HV.out⟩
          clear hX
          go_wp2_with fail
          go_ret
          exact ⟨_, rfl, HV'.out, HB.out⟩

set_option maxHeartbeats 800000 in
theorem joinC (A0 : Option Addr) (c0 : Nat) (xss : List (List PairD)) (w : World) (hr0 : Kd.C kRows w A0 xss.length xss) (hl : xss.flatten.length ≤ 100000000) :
    Calls Try.prog 60 #[.slice A0 xss.length c0] w fun e w' => ∃ v X, e = .returned v ∧ Own kPair 80 w' w.heap.size v X ∧ Aside0 (X = xss.flatten) ∧ Below w.heap.size w w' := by
  have hm0 := Kd.C_max hr0
  have HR0 := Aside0.mk hr0
  clear hr0
  go_enter Try.func60, Try.ntmps60
  go_wp2_with fail
  refine (concat A0 c0 xss w HR0.out hl).mono ?_
  rintro e w1 ⟨v1, rfl, hv1, hb1⟩
  have HV1 := Aside0.mk hv1
  have HB1 := Aside0.mk hb1
  clear hv1 hb1
  go_wp2_with fail
  go_ret
  exact ⟨_, _, rfl, HV1.out, ⟨rfl⟩, HB1.out⟩
end Go.Proofs.Ytckjgfbfjjiikaa.K
