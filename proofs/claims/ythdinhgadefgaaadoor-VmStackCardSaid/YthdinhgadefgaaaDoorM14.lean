/- The statement VmStack. -/
import Derived.Test.YthdinhgadefgaaaDoorM12
set_option linter.unusedVariables false
set_option linter.unusedSimpArgs false
set_option maxRecDepth 100000
namespace Go.Proofs.YthdinhgadefgaaaDoor.K
open Go.RowKit Go.Proofs.YthdinhgadefgaaaDoorW.PrintWords Go.Proofs.YthdinhgadefgaaaDoorW.PrintLast Go.Proofs.YthdinhgadefgaaaDoorW.PrintMore Go.Proofs.YthdinhgadefgaaaDoor.U Go.Proofs.YthdinhgadefgaaaDoor.T Go.Proofs.YthdinhgadefgaaaDoor.V
attribute [local go_sem] max2_int min2_int

theorem info_insM : (Tryd.prog.info? 51).map (fun i => (i.zero, i.size, i.bytes)) = some (some (.agg #[.int .i64 0, .int .i64 0, .string ⟨#[]⟩]), 3, 32) := by kernel_rfl
theorem flat_insM : Flat kIns := ((flat_int _).pair ((flat_int _).pair flat_string)).iso _
def rowP (n : Nat) : List InsD := (List.range n).map (fun i : Nat => insN 1 (i : Int))
theorem rowP_succ (n : Nat) : rowP (n + 1) = rowP n ++ [insN 1 n] := by unfold rowP; rw [List.range_succ, List.map_append]; rfl
theorem rowP_len (n : Nat) : (rowP n).length = n := by simp [rowP]
def wantS (n : Nat) : Int := if 16 < n then 1 else 0
theorem row_all : (List.range 25).all (fun n => (toldF kB (rowP n) [] 100).length == 0 && whyF kB (rowP n) [] 100 == wantS n && stepsF kB (rowP n) [] 100 == min (n : Int) 17) = true := by kernel_rfl
theorem row_runs (n : Nat) (h : n < 25) : (toldF kB (rowP n) [] 100).length = 0 ∧ whyF kB (rowP n) [] 100 = wantS n ∧ stepsF kB (rowP n) [] 100 = min (n : Int) 17 := by
  have := List.all_eq_true.1 row_all n (List.mem_range.2 h)
  simp only [Bool.and_eq_true, beq_iff_eq] at this
  exact ⟨this.1.1, this.1.2, this.2⟩
def opsK : List Int := [3, 4, 5, 8, 9, 10, 11, 12, 13, 14, 15, 16, 17, 18, 20, 22, 23]
theorem op_all : opsK.all (fun o => whyF kB [insN o 0] [] 100 == 1) = true := by kernel_rfl
theorem op_runs (o : Int) (h : o ∈ opsK) : whyF kB [insN o 0] [] 100 = 1 := by
  have := List.all_eq_true.1 op_all o h
  simpa using this
theorem rowP_in (n : Nat) (h : n < 25) : ∀ x ∈ rowP n, In64 x.a := fun x hx => by
  obtain ⟨i, hi, rfl⟩ := List.mem_map.1 hx
  have := List.mem_range.1 hi
  exact in64_small (by show -1000000 ≤ (i : Int); omega) (by show (i : Int) ≤ 1000000; omega)
theorem insO_in (o : Int) : ∀ x ∈ [insN o 0], In64 x.a := fun x hx => by
  obtain rfl := List.mem_singleton.1 hx
  exact in64_small (by show -1000000 ≤ (0 : Int); omega) (by show (0 : Int) ≤ 1000000; omega)
set_option maxHeartbeats 3200000 in
theorem vmStack_walk (W : World) (hE : Env W) (n : Int) (wn : (Lit.int .i64 n).wf = true) (op : Int) (wop : (Lit.int .i64 op).wf = true) :
    Calls Tryd.prog 11 #[.int .i64 n, .int .i64 op] W fun e w' => e = .returned (.bool true) ∧ Below W.heap.size W w' := by
  have HE := Aside0.mk hE
  clear hE wn wop
  obtain ⟨m, hm, hm25⟩ : ∃ i : Nat, lowN n 25 = i ∧ i < 25 := ⟨(lowN n 25).toNat, by have := lowN_range n 25 (by omega); omega, by have := lowN_range n 25 (by omega); omega⟩
  obtain ⟨j, hj, hj17⟩ : ∃ j : Nat, lowN op 17 = j ∧ j < 17 := ⟨(lowN op 17).toNat, by have := lowN_range op 17 (by omega); omega, by have := lowN_range op 17 (by omega); omega⟩
  have HM := Aside0.mk hm
  have HJ := Aside0.mk hj
  obtain ⟨o, ho⟩ : ∃ o, opsK[j]? = some o := ⟨_, List.getElem?_eq_getElem hj17⟩
  have HR1 := Aside0.mk (row_runs m hm25)
  have HR2 := Aside0.mk (op_runs o (List.mem_of_getElem? ho))
  clear hm hj
  go_enter Tryd.func11, Tryd.ntmps11
  go_wp2_with fail
  refine (low n 25 W (by omega) (by omega)).mono ?_
  rintro e w1 ⟨rfl, rfl⟩
  rw [HM.out]
  go_wp2_with fail
  go_loopg [5, 6] m (fun kq v5 v6 w' => ∃ (k : Nat) (A : Option Addr) (c : Nat), k + kq = m ∧ v6 = .int .i64 k ∧ v5 = .slice A k c ∧ Aside0 (Own kIns 51 w' w1.heap.size (.slice A k c) (rowP k) ∧ Below w1.heap.size w1 w'))
  case atStart => exact ⟨0, none, 0, by omega, rfl, rfl, ⟨(Own.nil kIns 51 w1 w1.heap.size : Own kIns 51 w1 w1.heap.size (.slice none 0 0) (rowP 0)), Below.refl _ _⟩⟩
  case round =>
    obtain ⟨k, A, c, hk, rfl, rfl, HK⟩ := hrel
    by_cases hlt : k < m
    · have hltI : (k : Int) < m := by omega
      have hb5 := (Below.refl wr.heap.size wr).alloc (Nat.le_refl _) (.cells #[.int .i64 1, .int .i64 k, .string ⟨#[]⟩] 51)
      have HO5 := Aside0.mk (HK.out.1.below hb5)
      have HB5 := Aside0.mk (two_belowM HK.out.2 hb5)
      have HL5 := Aside0.mk (lit_ins wr [insN 1 k] 51 #[.int .i64 1, .int .i64 k, .string ⟨#[]⟩] rfl (by show 1 ≤ 1000; omega))
      have hbs : w1.heap.size ≤ (wr.alloc (.cells #[.int .i64 1, .int .i64 k, .string ⟨#[]⟩] 51)).heap.size := HB5.out.size
      have HRL := Aside0.mk (rowP_len k)
      clear hb5
      go_wp2_with (at_builtin; refine wpList_app_own flat_insM w1.heap.size rfl _ _ 37 51 _ 32 rfl Tryd.underlying37 info_insM rfl (by decide) (by decide) (.slice A k c) (rowP k) [insN 1 k] (some ⟨wr.heap.size, 0, none⟩) 1 1 rfl rfl HO5.out rfl HL5.out hbs (by rw [HRL.out]; simp; omega) ?_; intro v4 w4 hv4 hg4 hat4; rw [← rowP_succ] at hv4; obtain ⟨A4, c4, rfl, _, _⟩ := hv4.reads; rw [rowP_len] at hv4; rw [rowP_len]; have HV4 := Aside0.mk hv4; have HB4 := Aside0.mk (Below.ch HB5.out (Ch.of_grown (S := fun k => (Value.slice A k c).ownBlock = some k ∨ w1.heap.size ≤ k) hg4 (fun k hk => .inr (HO5.out.base_ k hk))) hbs (fun k hk => by rcases hk with hk | hk; exact HO5.out.base_ k (by cases A <;> exact hk); exact hk)); clear hv4 hg4 hat4)
      go_roundg (m - (k + 1))
      case measure => omega
      case rel => exact ⟨k + 1, A4, c4, by omega, by go_num, rfl, ⟨HV4.out, HB4.out⟩⟩
    · obtain rfl : k = m := by omega
      obtain ⟨t, hC⟩ : ∃ hC, hC = HK.out.1.is := ⟨_, rfl⟩
      have hcap : k ≤ c := HK.out.1.is.2.1
      have hCk : Kd.C kIns wr A (rowP k).length (rowP k) := HK.out.1.is.2.2
      have HPR := Aside0.mk (show ∀ w', Below wr.heap.size wr w' → RunArgs w' A c (rowP k) none 0 [] 100 from fun w' hb => ⟨HE.out.below (two_belowM HK.out.2 hb), Kd.C_below hCk hb, by rw [rowP_len]; exact hcap, rowP_in k hm25, nil_strs _, by decide, by decide, by decide, in64_small (by omega) (by omega)⟩)
      have HLN := Aside0.mk (rowP_len k)
      clear hCk hC t
      have hrun : Aside0 (Calls Tryd.prog 32 #[.slice A k c, .string kB, .slice none 0 0, .int .i64 100] wr fun e w' => ∃ A' c', e = .returned (.tuple #[.slice A' 0 c', .int .i64 (wantS k)]) ∧ Below wr.heap.size wr w') := ⟨by
        have := vmRun A c (rowP k) kB none 0 [] 100 wr (HPR.out wr (Below.refl _ _))
        rw [HLN.out] at this
        refine this.mono ?_
        rintro e w' ⟨A', c', rfl, _, hb⟩
        rw [HR1.out.1, HR1.out.2.1]
        exact ⟨A', c', rfl, hb⟩⟩
      have hsteps : Aside0 (∀ w', Below wr.heap.size wr w' → Calls Tryd.prog 33 #[.slice A k c, .string kB, .slice none 0 0, .int .i64 100] w' fun e w'' => e = .returned (.int .i64 (min (k : Int) 17)) ∧ Below w'.heap.size w' w'') := ⟨fun w' hb => by
        have := vmSteps A c (rowP k) kB none 0 [] 100 w' (HPR.out w' hb)
        rw [HLN.out, HR1.out.2.2] at this
        exact this⟩
      have hor : (¬ (16 : Int) < k ∧ wantS k = 0) ∨ ((16 : Int) < k ∧ wantS k = 1) := by
        unfold wantS
        by_cases h : 16 < k
        · rw [if_pos h]; exact .inr ⟨by omega, rfl⟩
        · rw [if_neg h]; exact .inl ⟨by omega, rfl⟩
      have hltI : ¬ (k : Int) < k := by omega
      have hj17I : (j : Int) < 17 := by omega
      have hj0I : (0 : Int) ≤ (j : Int) := by omega
      have hmb : (min (k : Int) 17 == min (k : Int) 17) = true := by simp
      rcases hor with ⟨h16, hw⟩ | ⟨h16, hw⟩
      all_goals
        go_wp2_with fail
        refine hrun.out.mono ?_
        rintro e w3 ⟨A3, c3, rfl, hb3⟩
        rw [hw]
        have HB3 := Aside0.mk hb3
        clear hb3
        go_upto_region 14 with (fail)
        obtain ⟨gO, hgO⟩ : ∃ g, g = w3.heap.size := ⟨_, rfl⟩
        obtain ⟨w4, hw4⟩ : ∃ w, w = w3.alloc (.cells #[.int .i64 3, .int .i64 4, .int .i64 5, .int .i64 8, .int .i64 9, .int .i64 10, .int .i64 11, .int .i64 12, .int .i64 13, .int .i64 14, .int .i64 15, .int .i64 16, .int .i64 17, .int .i64 18, .int .i64 20, .int .i64 22, .int .i64 23] 3) := ⟨_, rfl⟩
        rw [← hgO, ← hw4]
        have hb4 : Below w3.heap.size w3 w4 := by rw [hw4]; exact (Below.refl _ _).alloc (Nat.le_refl _) _
        have hO4 : w4.heap[gO]? = some (.cells (nums .i64 opsK).toArray 3 (0, 0)) := by rw [hw4, hgO]; exact alloc_at w3 _
        have cO : w4.cell? ⟨gO, j, none⟩ = some (.int .i64 o) := by rw [cell_of_blk hO4]; simp [nums, ho]
        have HB4 := Aside0.mk (two_belowM HB3.out hb4)
        clear hw4 hgO hb4 hO4
        go_wp2_with fail
        refine (low op 17 w4 (by omega) (by omega)).mono ?_
        rintro e w5 ⟨rfl, rfl⟩
        rw [HJ.out]
        have HB5 := Aside0.mk ((Below.refl w5.heap.size w5).alloc (Nat.le_refl _) (.cells #[.int .i64 o, .int .i64 0, .string ⟨#[]⟩] 51))
        go_wp2_with fail
        refine (vmRun (some ⟨w5.heap.size, 0, none⟩) 1 [insN o 0] kB none 0 [] 100 _ ⟨HE.out.below (two_belowM HK.out.2 (two_belowM HB4.out HB5.out)), lit_ins w5 [insN o 0] _ _ rfl (by show 1 ≤ 1000; omega), by show 1 ≤ 1; omega, insO_in o, nil_strs _, by decide, by decide, by decide, in64_small (by omega) (by omega)⟩).mono ?_
        rintro e w6 ⟨A6, c6, rfl, _, hb6⟩
        rw [HR2.out]
        have HB6 := Aside0.mk (two_belowM (two_belowM HB4.out HB5.out) hb6)
        clear hb6
        go_wp2_with fail
        refine (hsteps.out w6 HB6.out).mono ?_
        rintro e w7 ⟨rfl, hb7⟩
        have HB7 := Aside0.mk (two_belowM HB6.out hb7)
        clear hb7
        go_wp2_with fail
        refine (awake6 w7 (HE.out.below (two_belowM HK.out.2 HB7.out))).mono ?_
        rintro e w8 ⟨rfl, hb8⟩
        have HB8 := Aside0.mk (two_belowM (two_belowM HK.out.2 HB7.out) hb8)
        clear hb8
        go_wp2_with fail
        go_ret
        exact ⟨rfl, HB8.out⟩
end Go.Proofs.YthdinhgadefgaaaDoor.K
