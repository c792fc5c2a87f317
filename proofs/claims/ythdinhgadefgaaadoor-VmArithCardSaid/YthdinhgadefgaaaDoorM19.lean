/- The statement VmArith. -/
import Derived.Test.YthdinhgadefgaaaDoorM18
set_option linter.unusedVariables false
set_option linter.unusedSimpArgs false
set_option maxRecDepth 100000
namespace Go.Proofs.YthdinhgadefgaaaDoor.K
open Go.RowKit Go.Proofs.YthdinhgadefgaaaDoorW.PrintWords Go.Proofs.YthdinhgadefgaaaDoorW.PrintLast Go.Proofs.YthdinhgadefgaaaDoorW.PrintMore Go.Proofs.YthdinhgadefgaaaDoor.U Go.Proofs.YthdinhgadefgaaaDoor.T Go.Proofs.YthdinhgadefgaaaDoor.V

theorem wf64A {n : Int} (h : (Lit.int .i64 n).wf = true) : In64 n := by
  have := bounds_i64 h
  unfold In64
  omega
theorem tw_of {key : ByteArray} {p : List InsD} {vals : List ByteArray} {f : Int} {s : St} (hm : CodeMay p ∧ 0 ≤ f) (h : finF key p vals f = (0, s)) : toldF key p vals f = s.told ∧ whyF key p vals f = 0 := by
  unfold toldF whyF
  simp only [if_pos hm, h]
  exact ⟨rfl, trivial⟩
theorem may_one (v : Int) (n : Int) : MayI (insN 1 v) n := by
  unfold MayI
  rw [if_pos (show (insN 1 v).op = 1 from rfl)]
  rfl
theorem may_ar (op a b : Int) (hop : op = 8 ∨ op = 9 ∨ op = 10 ∨ op = 11) : CodeMay (arP op a b) := by
  refine ⟨by show 6 ≤ 40; omega, fun x hx => ?_⟩
  show MayI x ((6 : Nat) : Int)
  simp only [arP, List.mem_cons, List.not_mem_nil, or_false] at hx
  rcases hx with rfl | rfl | rfl | rfl | rfl | rfl
  · decide
  · exact may_one a _
  · exact may_one b _
  · rcases hop with rfl | rfl | rfl | rfl <;> decide
  · decide
  · decide
theorem may_want (v : Int) : CodeMay (wantP v) := by
  refine ⟨by show 4 ≤ 40; omega, fun x hx => ?_⟩
  show MayI x ((4 : Nat) : Int)
  simp only [wantP, List.mem_cons, List.not_mem_nil, or_false] at hx
  rcases hx with rfl | rfl | rfl | rfl
  · decide
  · exact may_one v _
  · decide
  · decide
theorem may_back : CodeMay backP := by decide
theorem arith_all (o a b : Int) (hop : o = 8 ∨ o = 9 ∨ o = 10 ∨ o = 11) (v : Int) (hv : v = numO o a b) : (toldF eB (arP o a b) [] 6 = [⟨eB, digB v⟩] ∧ whyF eB (arP o a b) [] 6 = 0) ∧ (toldF eB backP [digB v] 6 = [⟨eB, digB v⟩] ∧ whyF eB backP [digB v] 6 = 0) ∧ (toldF eB (wantP v) [] 4 = [⟨eB, digB v⟩] ∧ whyF eB (wantP v) [] 4 = 0) ∧ In64 v ∧ (digB v).size ≤ 64 := by
  subst hv
  have hn := numO_in o a b
  exact ⟨tw_of ⟨may_ar o a b hop, by omega⟩ (arith_runs o a b hop), tw_of ⟨may_back, by omega⟩ (back_runs _ hn), tw_of ⟨may_want _, by omega⟩ (want_runs _ hn), hn, digB_size _ hn⟩
theorem in_ar (op a b : Int) (ha : In64 a) (hb : In64 b) : ∀ x ∈ arP op a b, In64 x.a := fun x hx => by
  have h0 : In64 0 := in64_small (by omega) (by omega)
  simp only [arP, List.mem_cons, List.not_mem_nil, or_false] at hx
  rcases hx with rfl | rfl | rfl | rfl | rfl | rfl
  · exact h0
  · exact ha
  · exact hb
  · exact h0
  · exact h0
  · exact h0
theorem in_back : ∀ x ∈ backP, In64 x.a := fun x hx => by
  have h0 : In64 0 := in64_small (by omega) (by omega)
  simp only [backP, List.mem_cons, List.not_mem_nil, or_false] at hx
  rcases hx with rfl | rfl | rfl | rfl | rfl | rfl <;> exact h0
theorem in_want (v : Int) (hv : In64 v) : ∀ x ∈ wantP v, In64 x.a := fun x hx => by
  have h0 : In64 0 := in64_small (by omega) (by omega)
  simp only [wantP, List.mem_cons, List.not_mem_nil, or_false] at hx
  rcases hx with rfl | rfl | rfl | rfl
  · exact h0
  · exact hv
  · exact h0
  · exact h0
set_option maxHeartbeats 6400000 in
theorem vmArith_walk (W : World) (hE : Env W) (a : Int) (wa : (Lit.int .i64 a).wf = true) (b : Int) (wb : (Lit.int .i64 b).wf = true) (op : Int) (wop : (Lit.int .i64 op).wf = true) :
    Calls Tryd.prog 9 #[.int .i64 a, .int .i64 b, .int .i64 op] W fun e w' => e = .returned (.bool true) ∧ Below W.heap.size W w' := by
  have HE := Aside0.mk hE
  have HA := Aside0.mk (wf64A wa)
  have HBb := Aside0.mk (wf64A wb)
  clear hE wa wb wop
  have hr := lowN_range op 4 (by omega)
  have hor : (lowN op 4 = 0) ∨ (lowN op 4 = 1) ∨ (lowN op 4 = 2) ∨ (lowN op 4 = 3 ∧ a < b) ∨ (lowN op 4 = 3 ∧ ¬ a < b) := by omega
  clear hr
  obtain ⟨o, v, ho, hv⟩ : ∃ o v, o = 8 + lowN op 4 ∧ v = numO o a b := ⟨_, _, rfl, rfl⟩
  have hop : o = 8 ∨ o = 9 ∨ o = 10 ∨ o = 11 := by omega
  obtain ⟨⟨t1, y1⟩, ⟨t2, y2⟩, ⟨t3, y3⟩, hv64, hds⟩ := arith_all o a b hop v hv
  have HV := Aside0.mk hv
  have HO := Aside0.mk ho
  obtain ⟨D, hD⟩ : ∃ D, D = digB v := ⟨_, rfl⟩
  rw [← hD] at t1 t2 y2 t3 hds
  have HT := Aside0.mk (And.intro (And.intro t1 y1) (And.intro (And.intro t2 y2) (And.intro t3 y3)))
  have HV64 := Aside0.mk hv64
  have HDS := Aside0.mk hds
  clear t1 y1 t2 y2 t3 y3 hv64 hds hD hv hop ho
  have hq : (lowN op 4 = 0 ∧ o = 8 ∧ v = wrap64 (a + b)) ∨ (lowN op 4 = 1 ∧ o = 9 ∧ v = wrap64 (a - b)) ∨ (lowN op 4 = 2 ∧ o = 10 ∧ v = wrap64 (a * b)) ∨ (lowN op 4 = 3 ∧ o = 11 ∧ v = 1 ∧ a < b) ∨ (lowN op 4 = 3 ∧ o = 11 ∧ v = 0 ∧ ¬ a < b) := by
    have ho := HO.out
    have hv := HV.out
    rcases hor with h | h | h | ⟨h, hlt⟩ | ⟨h, hlt⟩
    · have h8 : o = 8 := by omega
      exact .inl ⟨h, h8, by rw [hv, h8]; rfl⟩
    · have h8 : o = 9 := by omega
      exact .inr (.inl ⟨h, h8, by rw [hv, h8]; rfl⟩)
    · have h8 : o = 10 := by omega
      exact .inr (.inr (.inl ⟨h, h8, by rw [hv, h8]; rfl⟩))
    · have h8 : o = 11 := by omega
      exact .inr (.inr (.inr (.inl ⟨h, h8, by rw [hv, h8]; show boolN (decide (a < b)) = 1; rw [decide_eq_true hlt]; rfl, hlt⟩)))
    · have h8 : o = 11 := by omega
      exact .inr (.inr (.inr (.inr ⟨h, h8, by rw [hv, h8]; show boolN (decide (a < b)) = 0; rw [decide_eq_false hlt]; rfl, hlt⟩)))
  clear hor HV HO
  rcases hq with ⟨h, ho, hv⟩ | ⟨h, ho, hv⟩ | ⟨h, ho, hv⟩ | ⟨h, ho, hv, hlt⟩ | ⟨h, ho, hv, hlt⟩
  all_goals
    have HLOW := Aside0.mk h
    have HO8 := Aside0.mk ho
    have HVE := Aside0.mk hv
    clear h ho hv
    go_enter Tryd.func9, Tryd.ntmps9
    go_wp2_with fail
    refine (low op 4 W (by omega) (by omega)).mono ?_
    rintro e w1 ⟨rfl, rfl⟩
    rw [HLOW.out]
    go_wp2_with fail
    refine (vmRun (some ⟨w1.heap.size, 0, none⟩) 6 (arP o a b) eB none 0 [] 6 _ ⟨HE.out.below ((Below.refl w1.heap.size w1).alloc (Nat.le_refl _) _), lit_ins w1 (arP o a b) _ _ (by rw [HO8.out]; rfl) (by show 6 ≤ 1000; omega), by show 6 ≤ 6; omega, in_ar o a b HA.out HBb.out, nil_strs _, by decide, by decide, by decide, in64_small (by omega) (by omega)⟩).mono ?_
    rintro e w2 ⟨Aa, ca, rfl, hCa, hb2⟩
    rw [HT.out.1.1] at hCa ⊢
    rw [HT.out.1.2]
    have HCa := Aside0.mk hCa
    have HB2 := Aside0.mk (two_belowM ((Below.refl w1.heap.size w1).alloc (Nat.le_refl _) _) hb2)
    clear hb2
    obtain ⟨ad, rfl, hx0, hx1⟩ := at_pair2 hCa 0 (by simp)
    have hx : w2.cell? ⟨ad.block, ad.off + 1, none⟩ = some (.string D) := by
      have e1 : ad.add (0 * 2) = ad := by cases ad; rfl
      rw [e1] at hx1
      exact hx1
    clear hx0 hx1 hCa
    go_upto_region 15 with (fail)
    obtain ⟨g3, hg3⟩ : ∃ g, g = w2.heap.size := ⟨_, rfl⟩
    obtain ⟨w3, hw3⟩ : ∃ w, w = w2.alloc (.cells #[.int .i64 6, .int .i64 0, .string ⟨#[]⟩, .int .i64 7, .int .i64 0, .string ⟨#[]⟩, .int .i64 4, .int .i64 0, .string ⟨#[]⟩, .int .i64 18, .int .i64 0, .string ⟨#[]⟩, .int .i64 17, .int .i64 0, .string ⟨#[]⟩, .int .i64 23, .int .i64 0, .string ⟨#[]⟩] 51) := ⟨_, rfl⟩
    rw [← hg3, ← hw3]
    have hb3 : Below w2.heap.size w2 w3 := by rw [hw3]; exact (Below.refl _ _).alloc (Nat.le_refl _) _
    have HC3 : Aside0 (Kd.C kIns w3 (some ⟨g3, 0, none⟩) 6 backP) := ⟨by rw [hw3, hg3]; exact lit_ins w2 backP _ _ rfl (by show 6 ≤ 1000; omega)⟩
    have hx' : w3.cell? ⟨ad.block, ad.off + 1, none⟩ = some (.string D) := (hb3.cell (World.block_lt_of_cell? w2 _ hx)).trans hx
    have HCa3 := Aside0.mk (Kd.C_below HCa.out hb3)
    have HB3 := Aside0.mk (two_belowM HB2.out hb3)
    have HBS := Aside0.mk ((Below.refl w3.heap.size w3).alloc (Nat.le_refl _) (.cells #[.string D] 9))
    clear hx hg3 hw3 hb3
    go_wp2_with fail
    refine (vmRun (some ⟨g3, 0, none⟩) 6 backP eB (some ⟨w3.heap.size, 0, none⟩) 1 [D] 6 _ ⟨HE.out.below (two_belowM HB3.out HBS.out), Kd.C_below HC3.out HBS.out, by show 6 ≤ 6; omega, in_back, lit_strs w3 [D] _ _ rfl (by show 1 ≤ 1000; omega), by show 1 ≤ 1; omega, by show 1 ≤ 1000; omega, fun x hx => by
      obtain rfl := List.mem_singleton.1 hx
      have := HDS.out
      omega, in64_small (by omega) (by omega)⟩).mono ?_
    rintro e w4 ⟨Ab, cb, rfl, hCb, hb4⟩
    rw [HT.out.2.1.1] at hCb ⊢
    rw [HT.out.2.1.2]
    have HCb := Aside0.mk hCb
    have HCa4 := Aside0.mk (Kd.C_below HCa3.out (two_belowM HBS.out hb4))
    have HB4 := Aside0.mk (two_belowM HB3.out (two_belowM HBS.out hb4))
    clear hCb hb4
    go_wp2_with fail
    refine (vmRun (some ⟨w4.heap.size, 0, none⟩) 4 (wantP v) eB none 0 [] 4 _ ⟨HE.out.below (two_belowM HB4.out ((Below.refl w4.heap.size w4).alloc (Nat.le_refl _) _)), lit_ins w4 (wantP v) _ _ (by rw [HVE.out]; rfl) (by show 4 ≤ 1000; omega), by show 4 ≤ 4; omega, in_want v HV64.out, nil_strs _, by decide, by decide, by decide, in64_small (by omega) (by omega)⟩).mono ?_
    rintro e w5 ⟨Ac, cc, rfl, hCc, hb5⟩
    rw [HT.out.2.2.1] at hCc ⊢
    rw [HT.out.2.2.2]
    have HCc := Aside0.mk hCc
    have hb45 := two_belowM ((Below.refl w4.heap.size w4).alloc (Nat.le_refl _) _) hb5
    have HCa5 := Aside0.mk (Kd.C_below HCa4.out hb45)
    have HCb5 := Aside0.mk (Kd.C_below HCb.out hb45)
    have HB5 := Aside0.mk (two_belowM HB4.out hb45)
    clear hCc hb5 hb45
    go_wp2_with fail
    refine (samePairs (some ad) ca [⟨eB, D⟩] Ab cb [⟨eB, D⟩] w5 HCa5.out HCb5.out true (by simp)).mono ?_
    rintro e w6 ⟨rfl, hb6⟩
    have HCa6 := Aside0.mk (Kd.C_below HCa5.out hb6)
    have HCc6 := Aside0.mk (Kd.C_below HCc.out hb6)
    have HB6 := Aside0.mk (two_belowM HB5.out hb6)
    clear hb6
    go_wp2_with fail
    refine (samePairs (some ad) ca [⟨eB, D⟩] Ac cc [⟨eB, D⟩] w6 HCa6.out HCc6.out true (by simp)).mono ?_
    rintro e w7 ⟨rfl, hb7⟩
    have HB7 := Aside0.mk (two_belowM HB6.out hb7)
    clear hb7
    go_wp2_with fail
    refine (awake6 w7 (HE.out.below HB7.out)).mono ?_
    rintro e w8 ⟨rfl, hb8⟩
    have HB8 := Aside0.mk (two_belowM HB7.out hb8)
    clear hb8
    go_wp2_with fail
    go_ret
    exact ⟨rfl, HB8.out⟩
end Go.Proofs.YthdinhgadefgaaaDoor.K
