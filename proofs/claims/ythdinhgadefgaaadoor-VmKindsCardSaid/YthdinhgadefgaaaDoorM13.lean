/- The statement VmKinds. -/
import Derived.Test.YthdinhgadefgaaaDoorM12
set_option linter.unusedVariables false
set_option linter.unusedSimpArgs false
set_option maxRecDepth 100000
namespace Go.Proofs.YthdinhgadefgaaaDoor.K
open Go.RowKit Go.Proofs.YthdinhgadefgaaaDoorW.PrintWords Go.Proofs.YthdinhgadefgaaaDoorW.PrintLast Go.Proofs.YthdinhgadefgaaaDoorW.PrintMore Go.Proofs.YthdinhgadefgaaaDoor.U Go.Proofs.YthdinhgadefgaaaDoor.T Go.Proofs.YthdinhgadefgaaaDoor.V

def numP (o : Int) : List InsD := [insN 1 0, insN 1 0, insN 1 0, insN o 0]
def keyP (o : Int) : List InsD := [insN 6 0, insN 6 0, insN 6 0, insN o 0]
def numsK : List Int := [13, 14, 15, 16, 18, 23]
def textsK : List Int := [8, 9, 10, 11, 15, 16, 17, 20]
theorem num_runs (key : ByteArray) : ∀ o ∈ numsK, whyF key (numP o) [] 9 = 2 ∧ stepsF key (numP o) [] 9 = 4 := by
  intro o ho
  simp only [numsK, List.mem_cons, List.not_mem_nil, or_false] at ho
  rcases ho with rfl | rfl | rfl | rfl | rfl | rfl <;> exact ⟨by kernel_rfl, by kernel_rfl⟩
theorem push_key (key : ByteArray) (hk : key.size ≤ 16) (s : St) (hl : s.stack.length < 16) : doesF key s 6 0 ⟨#[]⟩ = (0, { s with stack := s.stack ++ [txtV key] }) := by
  have hb : ¬ ∃ v ∈ [txtV key], BigV v := by
    rintro ⟨v, hv, hB⟩
    obtain rfl := List.mem_singleton.1 hv
    have h2 : 64 < key.size := hB.2
    omega
  have e1 : popS s 6 = s := by
    show ({ s with stack := s.stack.take (s.stack.length - 0) } : St) = s
    rw [Nat.sub_zero, List.take_length]
  have e2 : doesF key s 6 0 ⟨#[]⟩ = opS key (popS s 6) 6 0 ⟨#[]⟩ (topV s.stack 6) := by
    unfold doesF
    rw [if_neg (by show ¬ _ < 0; omega), if_neg (by show ¬ fitsK [] _ = false; simp [fitsK])]
    rfl
  rw [e2, e1]
  show pushP s [txtV key] = _
  unfold pushP pushS
  have hw : pushW s.stack [txtV key] = 0 := by
    unfold pushW
    rw [if_neg hb, if_neg (by simp; omega)]
  rw [hw, if_pos rfl]
def kSt (key : ByteArray) (n : Int) (st : List ValD) : St := ⟨[], n, n, false, st, List.replicate 8 (intV 0), []⟩
theorem key_steps (key : ByteArray) (hk : key.size ≤ 16) (o : Int) (k : Nat) : playN key (keyP o) (k + 3) (runs0 []) = playN key (keyP o) k (kSt key 3 [txtV key, txtV key, txtV key]) := by
  have step : ∀ (k : Nat) (n : Nat) (st : List ValD), n < 3 → st.length < 16 → playN key (keyP o) (k + 1) (kSt key n st) = playN key (keyP o) k (kSt key (n + 1) (st ++ [txtV key])) := fun k n st hn hl => by
    have hx : (keyP o).getD (kSt key n st).at_.toNat ⟨0, 0, ⟨#[]⟩⟩ = insN 6 0 := by
      have : n = 0 ∨ n = 1 ∨ n = 2 := by omega
      rcases this with rfl | rfl | rfl <;> rfl
    rw [playN, if_pos ⟨by show (n : Int) < (4 : Nat); omega, rfl⟩, hx]
    have e : doesF key { kSt key n st with steps := (kSt key n st).steps + 1, at_ := (kSt key n st).at_ + 1 } (insN 6 0).op (insN 6 0).a (insN 6 0).s = (0, kSt key (n + 1) (st ++ [txtV key])) := push_key key hk { kSt key n st with steps := (kSt key n st).steps + 1, at_ := (kSt key n st).at_ + 1 } hl
    rw [e, if_pos rfl]
  have h0 := step (k + 2) 0 [] (by omega) (by simp)
  have h1 := step (k + 1) 1 [txtV key] (by omega) (by simp)
  have h2 := step k 2 [txtV key, txtV key] (by omega) (by simp)
  exact (h0.trans h1).trans h2
theorem key_runs (key : ByteArray) (hk : key.size ≤ 16) : ∀ o ∈ textsK, whyF key (keyP o) [] 9 = 2 ∧ stepsF key (keyP o) [] 9 = 4 := by
  intro o ho
  have hm : CodeMay (keyP o) ∧ (0 : Int) ≤ 9 := by
    simp only [textsK, List.mem_cons, List.not_mem_nil, or_false] at ho
    rcases ho with rfl | rfl | rfl | rfl | rfl | rfl | rfl | rfl <;> exact ⟨by decide, by decide⟩
  have hf : finF key (keyP o) [] 9 = playN key (keyP o) 6 (kSt key 3 [txtV key, txtV key, txtV key]) := key_steps key hk o 6
  have h4 : playN key (keyP o) 6 (kSt key 3 [txtV key, txtV key, txtV key]) = (2, kSt key 4 [txtV key, txtV key, txtV key]) := by
    simp only [textsK, List.mem_cons, List.not_mem_nil, or_false] at ho
    rcases ho with rfl | rfl | rfl | rfl | rfl | rfl | rfl | rfl <;> rfl
  unfold whyF stepsF
  rw [if_pos hm, if_pos hm, hf, h4]
  exact ⟨rfl, rfl⟩
theorem prog_in (l : List InsD) (h : ∀ x ∈ l, x.a = 0) : ∀ x ∈ l, In64 x.a := fun x hx => by
  rw [h x hx]
  exact in64_small (by omega) (by omega)
theorem numP_in (o : Int) : ∀ x ∈ numP o, In64 x.a := prog_in _ (fun x hx => by
  simp only [numP, List.mem_cons, List.not_mem_nil, or_false] at hx
  rcases hx with rfl | rfl | rfl | rfl <;> rfl)
theorem keyP_in (o : Int) : ∀ x ∈ keyP o, In64 x.a := prog_in _ (fun x hx => by
  simp only [keyP, List.mem_cons, List.not_mem_nil, or_false] at hx
  rcases hx with rfl | rfl | rfl | rfl <;> rfl)
set_option maxHeartbeats 3200000 in
theorem vmKinds_walk (W : World) (hE : Env W) (op : Int) (wop : (Lit.int .i64 op).wf = true) (key : ByteArray) (wkey : key.size ≤ 140737488351232) :
    Calls Tryd.prog 12 #[.int .i64 op, .string key] W fun e w' => e = .returned (.bool true) ∧ Below W.heap.size W w' := by
  have HE := Aside0.mk hE
  clear hE wop
  by_cases hbig : (16 : Int) < key.size
  · go_enter Tryd.func12, Tryd.ntmps12
    go_wp2_with fail
    refine (awake6 W HE.out).mono ?_
    rintro e w1 ⟨rfl, hb1⟩
    have HB1 := Aside0.mk hb1
    clear hb1
    go_wp2_with fail
    go_ret
    exact ⟨rfl, HB1.out⟩
  · have hk16 : key.size ≤ 16 := by omega
    obtain ⟨i, hi, hi6⟩ : ∃ i : Nat, lowN op 6 = i ∧ i < 6 := ⟨(lowN op 6).toNat, by have := lowN_range op 6 (by omega); omega, by have := lowN_range op 6 (by omega); omega⟩
    obtain ⟨j, hj, hj8⟩ : ∃ j : Nat, lowN op 8 = j ∧ j < 8 := ⟨(lowN op 8).toNat, by have := lowN_range op 8 (by omega); omega, by have := lowN_range op 8 (by omega); omega⟩
    have HI := Aside0.mk hi
    have HJ := Aside0.mk hj
    obtain ⟨o1, ho1⟩ : ∃ o, numsK[i]? = some o := ⟨_, List.getElem?_eq_getElem hi6⟩
    obtain ⟨o2, ho2⟩ : ∃ o, textsK[j]? = some o := ⟨_, List.getElem?_eq_getElem hj8⟩
    have HR1 := Aside0.mk (num_runs key o1 (List.mem_of_getElem? ho1))
    have HR2 := Aside0.mk (key_runs key hk16 o2 (List.mem_of_getElem? ho2))
    clear hi hj
    go_enter Tryd.func12, Tryd.ntmps12
    go_upto_region 5 with (fail)
    obtain ⟨gA, hgA⟩ : ∃ g, g = W.heap.size := ⟨_, rfl⟩
    obtain ⟨gB, hgB⟩ : ∃ g, g = W.heap.size + 1 := ⟨_, rfl⟩
    obtain ⟨w1, hw1⟩ : ∃ w, w = W.alloc (.cells #[.int .i64 13, .int .i64 14, .int .i64 15, .int .i64 16, .int .i64 18, .int .i64 23] 3) := ⟨_, rfl⟩
    obtain ⟨w2, hw2⟩ : ∃ w, w = w1.alloc (.cells #[.int .i64 8, .int .i64 9, .int .i64 10, .int .i64 11, .int .i64 15, .int .i64 16, .int .i64 17, .int .i64 20] 3) := ⟨_, rfl⟩
    rw [← hgB, ← hgA, ← hw1, ← hw2]
    have hs1 : w1.heap.size = gB := by rw [hw1, hgB]; exact World.size_alloc _ _
    have hb1 : Below W.heap.size W w1 := by rw [hw1]; exact (Below.refl _ _).alloc (Nat.le_refl _) _
    have hb2 : Below w1.heap.size w1 w2 := by rw [hw2]; exact (Below.refl _ _).alloc (Nat.le_refl _) _
    have hA1 : w1.heap[gA]? = some (.cells (nums .i64 numsK).toArray 3 (0, 0)) := by rw [hw1, hgA]; exact alloc_at W _
    have hA2 := (hb2.block gA (blk_lt' hA1)).trans hA1
    have hB2 : w2.heap[gB]? = some (.cells (nums .i64 textsK).toArray 3 (0, 0)) := by rw [hw2, ← hs1]; exact alloc_at w1 _
    have HB2 := Aside0.mk (two_belowM hb1 hb2)
    have HA2 := Aside0.mk hA2
    have HBB := Aside0.mk hB2
    clear hw1 hw2 hgA hgB hs1 hb1 hb2 hA1 hA2 hB2
    have cA : w2.cell? ⟨gA, i, none⟩ = some (.int .i64 o1) := by rw [cell_of_blk HA2.out]; simp [nums, ho1]
    have hi6I : (i : Int) < 6 := by omega
    have hi0I : (0 : Int) ≤ (i : Int) := by omega
    have hj8I : (j : Int) < 8 := by omega
    have hj0I : (0 : Int) ≤ (j : Int) := by omega
    go_wp2_with fail
    refine (low op 6 w2 (by omega) (by omega)).mono ?_
    rintro e w3 ⟨rfl, rfl⟩
    rw [HI.out]
    go_upto_region 6 with (fail)
    obtain ⟨gP, hgP⟩ : ∃ g, g = w3.heap.size := ⟨_, rfl⟩
    obtain ⟨w4, hw4⟩ : ∃ w, w = w3.alloc (.cells #[.int .i64 1, .int .i64 0, .string ⟨#[]⟩, .int .i64 1, .int .i64 0, .string ⟨#[]⟩, .int .i64 1, .int .i64 0, .string ⟨#[]⟩, .int .i64 o1, .int .i64 0, .string ⟨#[]⟩] 51) := ⟨_, rfl⟩
    rw [← hgP, ← hw4]
    have hb4 : Below w3.heap.size w3 w4 := by rw [hw4]; exact (Below.refl _ _).alloc (Nat.le_refl _) _
    have HC4 : Aside0 (Kd.C kIns w4 (some ⟨gP, 0, none⟩) 4 (numP o1)) := ⟨by rw [hw4, hgP]; exact lit_ins w3 (numP o1) _ _ rfl (by show 4 ≤ 1000; omega)⟩
    have cB : w4.cell? ⟨gB, j, none⟩ = some (.int .i64 o2) := by rw [cell_of_blk ((hb4.block gB (blk_lt' HBB.out)).trans HBB.out)]; simp [nums, ho2]
    have HB4 := Aside0.mk (two_belowM HB2.out hb4)
    clear hgP hw4 hb4 cA
    go_wp2_with fail
    refine (low op 8 w4 (by omega) (by omega)).mono ?_
    rintro e w5 ⟨rfl, rfl⟩
    rw [HJ.out]
    go_upto_region 7 with (fail)
    obtain ⟨gQ, hgQ⟩ : ∃ g, g = w5.heap.size := ⟨_, rfl⟩
    obtain ⟨w6, hw6⟩ : ∃ w, w = w5.alloc (.cells #[.int .i64 6, .int .i64 0, .string ⟨#[]⟩, .int .i64 6, .int .i64 0, .string ⟨#[]⟩, .int .i64 6, .int .i64 0, .string ⟨#[]⟩, .int .i64 o2, .int .i64 0, .string ⟨#[]⟩] 51) := ⟨_, rfl⟩
    rw [← hgQ, ← hw6]
    have hb6 : Below w5.heap.size w5 w6 := by rw [hw6]; exact (Below.refl _ _).alloc (Nat.le_refl _) _
    have HC6 : Aside0 (Kd.C kIns w6 (some ⟨gQ, 0, none⟩) 4 (keyP o2)) := ⟨by rw [hw6, hgQ]; exact lit_ins w5 (keyP o2) _ _ rfl (by show 4 ≤ 1000; omega)⟩
    have HP6 := Aside0.mk (Kd.C_below HC4.out hb6)
    have HB6 := Aside0.mk (two_belowM HB4.out hb6)
    clear hgQ hw6 hb6 cB
    have in9 : In64 9 := in64_9
    have RA : ∀ w', Below w6.heap.size w6 w' → RunArgs w' (some ⟨gP, 0, none⟩) 4 (numP o1) none 0 [] 9 := fun w' hb => ⟨HE.out.below (two_belowM HB6.out hb), Kd.C_below HP6.out hb, by show 4 ≤ 4; omega, numP_in o1, nil_strs _, by decide, by decide, by decide, in9⟩
    have RB : ∀ w', Below w6.heap.size w6 w' → RunArgs w' (some ⟨gQ, 0, none⟩) 4 (keyP o2) none 0 [] 9 := fun w' hb => ⟨HE.out.below (two_belowM HB6.out hb), Kd.C_below HC6.out hb, by show 4 ≤ 4; omega, keyP_in o2, nil_strs _, by decide, by decide, by decide, in9⟩
    have HRA := Aside0.mk RA
    have HRB := Aside0.mk RB
    clear RA RB in9
    go_wp2_with fail
    refine (vmRun (some ⟨gP, 0, none⟩) 4 (numP o1) key none 0 [] 9 w6 (HRA.out _ (Below.refl _ _))).mono ?_
    rintro e w7 ⟨A7, c7, rfl, _, hb7⟩
    rw [HR1.out.1]
    have HB7 := Aside0.mk hb7
    clear hb7
    go_wp2_with fail
    refine (vmRun (some ⟨gQ, 0, none⟩) 4 (keyP o2) key none 0 [] 9 w7 (HRB.out _ HB7.out)).mono ?_
    rintro e w8 ⟨A8, c8, rfl, _, hb8⟩
    rw [HR2.out.1]
    have HB8 := Aside0.mk (two_belowM HB7.out hb8)
    clear hb8
    go_wp2_with fail
    refine (vmSteps (some ⟨gP, 0, none⟩) 4 (numP o1) key none 0 [] 9 w8 (HRA.out _ HB8.out)).mono ?_
    rintro e w9 ⟨rfl, hb9⟩
    rw [HR1.out.2]
    have HB9 := Aside0.mk (two_belowM HB8.out hb9)
    clear hb9
    go_wp2_with fail
    refine (vmSteps (some ⟨gQ, 0, none⟩) 4 (keyP o2) key none 0 [] 9 w9 (HRB.out _ HB9.out)).mono ?_
    rintro e w10 ⟨rfl, hb10⟩
    rw [HR2.out.2]
    have HB10 := Aside0.mk (two_belowM HB9.out hb10)
    clear hb10
    go_wp2_with fail
    refine (awake6 w10 (HE.out.below (two_belowM HB6.out HB10.out))).mono ?_
    rintro e w11 ⟨rfl, hb11⟩
    have HB11 := Aside0.mk (two_belowM (two_belowM HB6.out HB10.out) hb11)
    clear hb11
    go_wp2_with fail
    go_ret
    exact ⟨rfl, HB11.out⟩
end Go.Proofs.YthdinhgadefgaaaDoor.K
