/- The statement ValueCuts. -/
import Derived.Test.YthdinhgadefgaaaDoorV6
import Derived.Deep.RegionHeldLaw
set_option linter.unusedVariables false
set_option linter.unusedSimpArgs false
set_option maxRecDepth 100000
namespace Go.Proofs.YthdinhgadefgaaaDoor.K
open Go.RowKit Go.Proofs.YthdinhgadefgaaaDoorW.PrintWords Go.Proofs.YthdinhgadefgaaaDoorW.PrintLast Go.Proofs.YthdinhgadefgaaaDoorW.PrintMore Go.Proofs.YthdinhgadefgaaaDoor.U Go.Proofs.YthdinhgadefgaaaDoor.T Go.Proofs.YthdinhgadefgaaaDoor.V

theorem ext_list (s : ByteArray) (a b : Nat) : (s.extract a b).data.toList = (s.data.toList.drop a).take (b - a) := by
  rw [ByteArray.data_extract, Array.toList_extract]
theorem cut_all (s : ByteArray) (k : Int) : cutB s (-5) k ++ cutB s k ((s.size : Int) + 9) = s := by
  have e5 : loB s (-5) = 0 := by unfold loB; omega
  have e9 : loB s ((s.size : Int) + 9) = s.size := by unfold loB; omega
  have hle := loB_le s k
  have hl : s.data.toList.length = s.size := by simp
  unfold cutB
  rw [e5, e9]
  generalize loB s k = a at *
  apply ba_ext
  rw [ByteArray.data_append, Array.toList_append]
  by_cases h0 : a ≤ 0
  · rw [if_pos h0]
    obtain rfl : a = 0 := by omega
    by_cases h1 : s.size ≤ 0
    · rw [if_pos h1]
      have : s.data.toList = [] := List.eq_nil_of_length_eq_zero (by omega)
      rw [this]
      rfl
    · rw [if_neg h1, ext_list, List.drop_zero, Nat.sub_zero, ← hl, List.take_length]
      try rfl
  · rw [if_neg h0, ext_list, List.drop_zero, Nat.sub_zero]
    by_cases h1 : s.size ≤ a
    · rw [if_pos h1]
      obtain rfl : a = s.size := by omega
      rw [← hl, List.take_length]
      exact List.append_nil _
    · rw [if_neg h1, ext_list, List.take_of_length_le (l := s.data.toList.drop a) (by rw [List.length_drop]; omega), List.take_append_drop]
theorem cut_len (s : ByteArray) (k : Int) (h0 : 0 ≤ k) (h1 : k ≤ s.size) : ((cutB s (-5) k).size : Int) = k := by
  have e5 : loB s (-5) = 0 := by unfold loB; omega
  have ek : (loB s k : Int) = k := by unfold loB; omega
  have hle := loB_le s k
  have hl : s.data.toList.length = s.size := by simp
  unfold cutB
  rw [e5]
  generalize loB s k = a at *
  by_cases h : a ≤ 0
  · rw [if_pos h]
    show ((0 : Nat) : Int) = k
    omega
  · rw [if_neg h]
    have : (s.extract 0 a).size = a := by
      have h2 : (s.extract 0 a).data.toList.length = (s.extract 0 a).size := Array.length_toList
      rw [← h2, ext_list, List.drop_zero, Nat.sub_zero, List.length_take]
      omega
    rw [this, ek]
theorem cut_none (s : ByteArray) (i : Int) : cutB s i i = ⟨#[]⟩ := by
  unfold cutB
  rw [if_pos (Nat.le_refl _)]
theorem cut_one (s : ByteArray) (i : Nat) (h : i < s.size) : cutB s i ((i : Int) + 1) = ⟨#[s[i]]⟩ := by
  have e1 : loB s (i : Int) = i := by unfold loB; omega
  have e2 : loB s ((i : Int) + 1) = i + 1 := by unfold loB; omega
  unfold cutB
  rw [e1, e2, if_neg (by omega)]
  apply ba_ext
  rw [ext_list]
  have hl : i < s.data.toList.length := by simpa using h
  rw [List.drop_eq_getElem_cons hl, show i + 1 - i = 1 from by omega]
  simp
  rfl
theorem cut_start (s : ByteArray) (k : Int) : (cutB s (-5) k).size ≤ s.size := by
  unfold cutB
  have hle := loB_le s k
  split
  · exact Nat.zero_le _
  · have h2 : (s.extract (loB s (-5)) (loB s k)).data.toList.length = (s.extract (loB s (-5)) (loB s k)).size := Array.length_toList
    have hl : s.data.toList.length = s.size := by simp
    rw [← h2, ext_list, List.length_take, List.length_drop]
    have := hl
    omega
theorem cut_rest (s : ByteArray) (k m : Int) : (cutB s k m).size ≤ s.size := by
  unfold cutB
  split
  · exact Nat.zero_le _
  · have h2 : (s.extract (loB s k) (loB s m)).data.toList.length = (s.extract (loB s k) (loB s m)).size := Array.length_toList
    have hl : s.data.toList.length = s.size := by simp
    rw [← h2, ext_list, List.length_take, List.length_drop]
    have := hl
    omega
set_option maxHeartbeats 1600000 in
theorem valueCuts_walk (W : World) (hE : Env W) (s : ByteArray) (ws : s.size ≤ 140737488351232) (k : Int) (wk : (Lit.int .i64 k).wf = true) (i : Int) (wi : (Lit.int .i64 i).wf = true) :
    Calls Tryd.prog 5 #[.string s, .int .i64 k, .int .i64 i] W fun e w' => e = .returned (.bool true) ∧ Below W.heap.size W w' := by
  have HE := Aside0.mk hE
  clear hE wk wi
  by_cases hbig : (100 : Int) < s.size
  · go_enter Tryd.func5, Tryd.ntmps5
    go_wp2_with fail
    refine (awake4 W HE.out).mono ?_
    rintro e w1 ⟨rfl, hb1⟩
    have HB1 := Aside0.mk hb1
    clear hb1
    go_wp2_with fail
    go_ret
    exact ⟨rfl, HB1.out⟩
  · have hs2 : s.size ≤ 100 := by omega
    obtain ⟨a, ha⟩ : ∃ a, a = cutB s (-5) k := ⟨_, rfl⟩
    obtain ⟨b, hb⟩ : ∃ b, b = cutB s k ((s.size : Int) + 9) := ⟨_, rfl⟩
    have hab : ((a ++ b).toList == s.toList) = true := by rw [ha, hb, cut_all]; simp
    have hsa : a.size ≤ 100 := by rw [ha]; exact Nat.le_trans (cut_start s k) hs2
    have hsb : b.size ≤ 100 := by rw [hb]; exact Nat.le_trans (cut_rest s _ _) hs2
    have hlen : 0 ≤ k → k ≤ s.size → (a.size : Int) = k := fun h0 h1 => by rw [ha]; exact cut_len s k h0 h1
    have HLEN := Aside0.mk hlen
    have HA := Aside0.mk ha
    have HB := Aside0.mk hb
    clear hlen ha hb
    have hor : ¬ 0 ≤ k ∨ (0 ≤ k ∧ ¬ k ≤ (s.size : Int)) ∨ (0 ≤ k ∧ k ≤ (s.size : Int) ∧ ((a.size : Int) == k) = true ∧ ((a.size : Int) != k) = false) := by
      by_cases h0 : 0 ≤ k
      · by_cases h1 : k ≤ (s.size : Int)
        · have := HLEN.out h0 h1
          exact .inr (.inr ⟨h0, h1, by simpa using this, by simpa using this⟩)
        · exact .inr (.inl ⟨h0, h1⟩)
      · exact .inl h0
    have HOR := Aside0.mk hor
    clear hor
    go_enter Tryd.func5, Tryd.ntmps5
    go_wp2_with fail
    refine (valCut s (-5) k W (by omega)).mono ?_
    rintro e w1 ⟨rfl, rfl⟩
    rw [← HA.out]
    go_wp2_with fail
    refine (valCut s k _ w1 (by omega)).mono ?_
    rintro e w1 ⟨rfl, rfl⟩
    rw [← HB.out]
    rcases HOR.out with q1 | ⟨q1, q2⟩ | ⟨q1, q2, q3, q4⟩
    all_goals
      clear HOR
      go_wp2_with fail
      refine (valAt s i w1 (by omega)).mono ?_
      rintro e w1 ⟨rfl, rfl⟩
      by_cases hout : i < 0 ∨ (s.size : Int) ≤ i
      · have e1 := atB_out s i hout
        rw [e1]
        have hor : i < 0 ∨ (¬ i < 0 ∧ (s.size : Int) ≤ i) := by omega
        clear hout e1
        rcases hor with h1 | ⟨h1, h2⟩
        all_goals
          go_wp2_with fail
          refine (valCut s i i w1 (by omega)).mono ?_
          rintro e w1 ⟨rfl, rfl⟩
          rw [cut_none]
          go_wp2_with fail
          refine (awake4 w1 HE.out).mono ?_
          rintro e w2 ⟨rfl, hb2⟩
          have HB2 := Aside0.mk hb2
          clear hb2
          go_wp2_with fail
          go_ret
          exact ⟨rfl, HB2.out⟩
      · obtain ⟨j, rfl⟩ : ∃ j : Nat, i = j := ⟨i.toNat, by omega⟩
        have hj : j < s.size := by omega
        have e1 := atB_in s j hj
        have e2 := cut_one s j hj
        obtain ⟨c, hc⟩ : ∃ c, c = s[j]'hj := ⟨_, rfl⟩
        rw [← hc] at e1 e2
        rw [e1]
        have hj1 : (j : Int) < s.size := by omega
        have hcb : (c.toNat : Int) < 256 := by have := c.toNat_lt; omega
        have HC := Aside0.mk e2
        clear hout e1 e2 hc
        have hwj : IntKind.i64.wrap ((j : Int) + 1) = (j : Int) + 1 := IntWalk.i64_in _ (by omega)
        have hwc : IntKind.u8.wrap (c.toNat : Int) = (c.toNat : Int) := by simp [IntKind.wrap, IntKind.bits, IntKind.signed]; omega
        go_wp2_with fail
        have HCX : Aside0 (∀ w', HeldV w1 w' → Calls Tryd.prog 20 #[.string s, .int .i64 j, .int .i64 (j + 1)] w' fun e w'' => e = .returned (.string ⟨#[c]⟩) ∧ w'' = w') := ⟨fun w' h => by rw [← HC.out]; exact valCut s (j : Int) ((j : Int) + 1) w' (by omega)⟩
        have H6 : Aside0 (∀ w', HeldV w1 w' → Calls Tryd.prog 14 #[] w' fun e w'' => e = .returned (.bool true) ∧ HeldV w1 w'') := ⟨fun w' h => (awake4 w' (HE.out.below (h : Below w1.heap.size w1 w'))).mono (fun e w'' k => ⟨k.1, two_below (h : Below w1.heap.size w1 w') k.2⟩)⟩
        have htt : strOfNums [(c.toNat : Int)] = ⟨#[c]⟩ := by simp [strOfNums]
        have HCV : Aside0 (Runs Tryd.prog (convert 32 9 (.slice (some ⟨w1.heap.size, 0, none⟩) 1 1)) (w1.alloc (.cells #[.int .u8 c.toNat] 5)).drew fun v w' => v = .string ⟨#[c]⟩ ∧ w' = (w1.alloc (.cells #[.int .u8 c.toNat] 5)).drew) := ⟨by rw [← htt]; exact string_runs Tryd.prog 32 5 9 Tryd.underlying32 Tryd.underlying5 Tryd.underlying9 (xs := [(c.toNat : Int)]) (n := 1) (lit_nums w1.drew .u8 [(c.toNat : Int)] _ _ rfl (by simp)) rfl⟩
        clear htt
        have hh0 : HeldV w1 w1.drew := below_drew1 (Below.refl _ _)
        have hh1 : ∀ w' t, HeldV w1 w' → HeldV w1 (w'.alloc t) := fun w' t h => Below.alloc (h : Below w1.heap.size w1 w') h.size t
        go_region_held_law (fun w' => HeldV w1 w') (first | assumption | exact hh1 _ _ (by assumption))
         (first
          | (go_at_call 20; ((with_reducible refine (HCX.out _ (by go_split_ands; first | assumption | exact hh1 _ _ (by assumption))).mono ?_); rintro e wn ⟨rfl, rfl⟩))
          | (go_at_call 14; ((with_reducible refine (H6.out _ (by go_split_ands; assumption)).mono ?_); rintro e wn ⟨rfl, hHz⟩))
          | (refine upon_runs HCV.out ?_; rintro _ wn ⟨rfl, rfl⟩; go_simp))
        all_goals
          go_wp2_with fail
          go_ret
          exact ⟨rfl, hHz⟩
end Go.Proofs.YthdinhgadefgaaaDoor.K
