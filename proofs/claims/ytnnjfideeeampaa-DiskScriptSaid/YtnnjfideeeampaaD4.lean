/- The document's disk. -/
import Derived.Test.YtnnjfideeeampaaD3
import Derived.Deep.RegionHeld3
import Derived.Deep.RegionWith
set_option linter.unusedVariables false
set_option linter.unusedSimpArgs false
namespace Go.Proofs.Ytnnjfideeeampaa.K
open Go.RowKit Go.Proofs.YtnnjfideeeampaaW.PrintWords Go.Proofs.YtnnjfideeeampaaW.PrintLast Go.Proofs.YtnnjfideeeampaaW.PrintMore Go.Proofs.Ytnnjfideeeampaa.U Go.Proofs.Ytnnjfideeeampaa.T

set_option maxHeartbeats 800000 in
theorem refDAppend (w : World) (base g : Nat) (v : Value) (B : List Int) (n : Nat) (h : DiskR 30 w base g v B n) (A0 : Option Addr) (c0 : Nat) (l0 : List Int) (hr0 : Kd.C (Kd.int .u8) w A0 l0.length l0) (hs : B.length + l0.length ≤ 1000000) :
    Calls Try.prog 15 #[.pointer (some ⟨g, 0, none⟩), .slice A0 l0.length c0] w fun e w' => ∃ v', e = .returned (.tuple #[]) ∧ DiskR 30 w' base g v' (B ++ l0) n ∧ Ch w w' (footD g v) ∧ ∀ k, v'.ownBlock = some k → v.ownBlock = some k ∨ w.heap.size ≤ k := by
  have H := Aside0.mk h
  have HR0 := Aside0.mk hr0
  obtain ⟨A, c, rfl, hc, hrr⟩ := h.own.reads
  have HRR := Aside0.mk hrr
  have hc0 := h.c0
  have hf0 := h.f0
  have hlt := h.lt
  have hsB : B.length ≤ 1000000 := h.small
  clear h hr0 hrr
  go_enter Try.func15, Try.ntmps15
  go_wp2_with (at_builtin; first
    | (refine wpList_app_own (flat_int .u8) w.heap.size rfl _ _ 28 5 _ 1 rfl Try.underlying28 info_u8 rfl (by decide) (by decide) (.slice none 0 0) [] B A _ c rfl rfl (Own.nil _ _ _ _) rfl HRR.out (Nat.le_refl _) (by simp; omega) ?_; intro v1 w1 hv1 hg1 hat1; rw [List.nil_append] at hv1; obtain ⟨A1, c1, rfl, _, _⟩ := hv1.reads; have HV1 := Aside0.mk hv1; have HC1 := Aside0.mk (Ch.of_grown (S := fun _ => False) hg1 (fun k hk => by cases hk)); have hbk := (hg1.block g hlt (fun e => by cases e)).trans H.out.blk; have hc0' : w1.cell? ⟨g, 0, none⟩ = some (.slice A B.length c) := cell_of_blk hbk; have hf0' : w1.frozen? ⟨g, 0, none⟩ = false := frozen_of_blk hbk; have HBK := Aside0.mk hbk; clear hv1 hg1 hat1 hbk)
    | (refine wpList_app_own (flat_int .u8) w.heap.size rfl _ _ 28 5 _ 1 rfl Try.underlying28 info_u8 rfl (by decide) (by decide) (.slice A1 B.length c1) B l0 A0 _ c0 rfl rfl HV1.out rfl (C_ch HR0.out HC1.out (fun _ _ => id)) HC1.out.size (by omega) ?_; intro v2 w2 hv2 hg2 hat2; obtain ⟨A2, c2, rfl, _, _⟩ := hv2.reads; have HV2 := Aside0.mk hv2; have HG2 := Aside0.mk hg2; have hbk := (hg2.block g (blk_lt' HBK.out) (fun e => by have := HV1.out.base_ g e.symm; omega)).trans HBK.out; have hc0'' : w2.cell? ⟨g, 0, none⟩ = some (.slice A B.length c) := cell_of_blk hbk; have hf0'' : w2.frozen? ⟨g, 0, none⟩ = false := frozen_of_blk hbk; have HBK2 := Aside0.mk hbk; clear hv2 hg2 hat2 hbk))
  go_end0
  have hv := HV2.out
  rw [List.length_append] at hv
  have hg := H.out.lt
  have hc12 : Ch w w2 (footD g (.slice A B.length c)) := (HC1.out.mono (fun _ h => h.elim)).trans (Ch.of_grown (S := fun k => (Value.slice A1 B.length c1).ownBlock = some k) HG2.out (fun k hk => hk)) (fun k hk h => by have := HV1.out.base_ k h; omega)
  exact ⟨_, rfl, H.out.set0 (HBK2.out.trans H.out.blk.symm) (hv.lower hg) (by rw [List.length_append]; have := H.out.le; omega) (by rw [List.length_append]; exact hs), hc12.setCell _ _ (.inl rfl), fun k hk => .inr (hv.base_ k hk)⟩

set_option maxHeartbeats 800000 in
theorem refDCut_no (w : World) (base g : Nat) (v : Value) (B : List Int) (n : Nat) (h : DiskR 30 w base g v B n) (m : Int) (hm : m < 0 ∨ (B.length : Int) < m) : Calls Try.prog 22 #[.pointer (some ⟨g, 0, none⟩), .int .i64 m] w fun e w' => e = .returned (.bool false) ∧ w' = w := by
  obtain ⟨A, c, rfl, hc, _⟩ := h.own.reads
  have hc0 := h.c0
  have hsm := h.small
  clear h
  by_cases h1 : m < 0
  · clear hm
    go_enter Try.func22, Try.ntmps22
    go_wp2_with fail
    go_ret
    exact ⟨rfl, rfl⟩
  · have h2 : (B.length : Int) < m := by omega
    clear hm
    go_enter Try.func22, Try.ntmps22
    go_wp2_with fail
    go_ret
    exact ⟨rfl, rfl⟩
set_option maxHeartbeats 800000 in
theorem refDCut_ok (w : World) (base g : Nat) (v : Value) (B : List Int) (n j : Nat) (h : DiskR 30 w base g v B n) (hj : j ≤ B.length) : Calls Try.prog 22 #[.pointer (some ⟨g, 0, none⟩), .int .i64 j] w fun e w' => ∃ v', e = .returned (.bool true) ∧ DiskR 30 w' base g v' (B.take j) j ∧ Ch w w' (footD g v) ∧ ∀ k, v'.ownBlock = some k → v.ownBlock = some k ∨ w.heap.size ≤ k := by
  have H := Aside0.mk h
  obtain ⟨A, c, rfl, hc, hrr⟩ := h.own.reads
  obtain ⟨Z, hZ⟩ : ∃ Z, Z = B.take j := ⟨_, rfl⟩
  have hZl : j = Z.length := by rw [hZ, List.length_take]; omega
  have hct := Kd.C_take (m := j) hrr hj
  rw [← hZ] at hct
  have HCT := Aside0.mk hct
  have HZ := Aside0.mk hZ
  have hc0 := h.c0
  have hc1 := h.c1
  have hf0 := h.f0
  have hf1 := h.f1
  have hlt := h.lt
  have hsm := h.small
  clear h hrr hct hZ
  subst hZl
  have hjs : Z.length ≤ 1000000 := by omega
  go_enter Try.func22, Try.ntmps22
  go_wp2_with (at_builtin; refine wpList_app_own (flat_int .u8) w.heap.size rfl _ _ 28 5 _ 1 rfl Try.underlying28 info_u8 rfl (by decide) (by decide) (.slice none 0 0) [] Z A _ c rfl rfl (Own.nil _ _ _ _) rfl HCT.out (Nat.le_refl _) (by simp; omega) ?_; intro v1 w1 hv1 hg1 hat1; rw [List.nil_append] at hv1; obtain ⟨A1, c1, rfl, _, _⟩ := hv1.reads; have HV1 := Aside0.mk hv1; have HC1 := Aside0.mk (Ch.of_grown (S := fun _ => False) hg1 (fun k hk => by cases hk)); have hbk := (hg1.block g hlt (fun e => by cases e)).trans H.out.blk; have hc0' : w1.cell? ⟨g, 0, none⟩ = some (.slice A B.length c) := cell_of_blk hbk; have hf0' : w1.frozen? ⟨g, 0, none⟩ = false := frozen_of_blk hbk; have HBK := Aside0.mk hbk; have hbk2 := setCell_blk (j := 0) hbk (.slice A1 Z.length c1); have hc1' : (w1.setCell ⟨g, 0, none⟩ (.slice A1 Z.length c1)).cell? ⟨g, 1, none⟩ = some (.int .i64 n) := cell_of_blk hbk2; have hf1' : (w1.setCell ⟨g, 0, none⟩ (.slice A1 Z.length c1)).frozen? ⟨g, 1, none⟩ = false := frozen_of_blk hbk2; have HBK2 := Aside0.mk hbk2; clear hv1 hg1 hat1 hbk hbk2)
  go_ret
  have ho : Own (Kd.int .u8) 5 w1 (g + 1) (.slice A1 Z.length c1) Z := HV1.out.lower hlt
  have hcw : Ch w w1 (footD g (.slice A B.length c)) := HC1.out.mono (fun _ h => h.elim)
  have hd : DiskR 30 ((w1.setCell ⟨g, 0, none⟩ (.slice A1 Z.length c1)).setCell ⟨g, 1, none⟩ (.int .i64 Z.length)) base g (.slice A1 Z.length c1) (B.take Z.length) Z.length := by
    rw [← HZ.out]
    refine DiskR.set1 H.out.low HBK2.out ?_ (Nat.le_refl _) hjs
    refine ho.ch (S := fun k => k = g) (flat_int .u8) ((Ch.refl w1 _).setCell ⟨g, 0, none⟩ _ rfl) (fun k hk e => ?_)
    have := ho.base_ k hk
    omega
  exact ⟨_, rfl, hd, (hcw.setCell _ _ (.inl rfl)).setCell _ _ (.inl rfl), fun k hk => .inr (HV1.out.base_ k hk)⟩

set_option maxHeartbeats 1600000 in
theorem refDCrash (w : World) (base g : Nat) (v : Value) (B : List Int) (n : Nat) (h : DiskR 30 w base g v B n) (keep : Int) (j : Nat) (hj : j = crashN B.length n keep) : Calls Try.prog 20 #[.pointer (some ⟨g, 0, none⟩), .int .i64 keep] w fun e w' => ∃ v', e = .returned (.tuple #[]) ∧ DiskR 30 w' base g v' (B.take j) j ∧ Ch w w' (footD g v) ∧ ∀ k, v'.ownBlock = some k → v.ownBlock = some k ∨ w.heap.size ≤ k := by
  have H := Aside0.mk h
  obtain ⟨A, c, rfl, hc, _⟩ := h.own.reads
  have hc0 := h.c0
  have hc1 := h.c1
  have hle := h.le
  have hsm := h.small
  have hjl := crashN_le B.length n keep hle
  rw [← hj] at hjl
  have HJL := Aside0.mk hjl
  obtain ⟨u, hu⟩ : ∃ u : Int, u = (B.length : Int) - n := ⟨_, rfl⟩
  obtain ⟨k0, hk0⟩ : ∃ k0 : Int, k0 = keep % 18446744073709551616 := ⟨_, rfl⟩
  obtain ⟨r, hr⟩ : ∃ r : Int, r = k0 % (u + 1) := ⟨_, rfl⟩
  have hr0 : 0 ≤ r := by rw [hr]; exact Int.emod_nonneg _ (by omega)
  have hr1 : r < u + 1 := by rw [hr]; exact Int.emod_lt_of_pos _ (by omega)
  have hjr : (j : Int) = n + r := by rw [hj, crashN, ← hk0, ← hu, ← hr]; omega
  have u0 : 0 ≤ u := by omega
  have u1 : u ≤ 1000000 := by omega
  have w0 : IntKind.i64.wrap ((B.length : Int) - n) = u := by rw [← hu]; exact i64_in' _ (by omega) (by omega)
  have w0' : IntKind.u64.wrap u = u := by rw [u64_wrap]; omega
  have w2 : IntKind.u64.wrap (u + 1) = u + 1 := by rw [u64_wrap]; omega
  have w3 : IntKind.u64.wrap keep = k0 := by rw [u64_wrap, hk0]
  have w4 : k0.tmod (u + 1) = r := by rw [hr]; exact Int.tmod_eq_emod_of_nonneg (by omega)
  have w5 : IntKind.u64.wrap r = r := by rw [u64_wrap]; omega
  have w6 : IntKind.i64.wrap r = r := i64_in' _ (by omega) (by omega)
  have w7 : IntKind.i64.wrap ((n : Int) + r) = (j : Int) := by rw [hjr]; exact i64_in' _ (by omega) (by omega)
  have w9 : (u + 1 = 0) = False := eq_false (by omega)
  have HU := Aside0.mk hu
  clear h hj hu hk0 hr hjr hr0 hr1 hjl
  go_enter Try.func20, Try.ntmps20
  go_wp2_with fail
  go_quiet (fail)
  go_wp2_with fail
  go_region_with (first
    | (go_at_call 22; refine (refDCut_ok _ base g _ B n j (H.out.below (by first | exact pw_below_drewN (Below.refl _ _) _ | exact below_drew1 (pw_below_drewN (Below.refl _ _) _))) HJL.out.2).mono ?_; rintro e w6 ⟨v6, rfl, hd6, hc6, hat6⟩; have HD6 := Aside0.mk hd6; have HC6 := Aside0.mk hc6; have HAT6 := Aside0.mk hat6; clear hd6 hc6 hat6))
  all_goals (go_end0; exact ⟨_, rfl, HD6.out, (Ch.of_below (by first | exact pw_below_drewN (Below.refl _ _) _ | exact below_drew1 (pw_below_drewN (Below.refl _ _) _)) _).trans HC6.out (fun k _ h => h), HAT6.out⟩)
end Go.Proofs.Ytnnjfideeeampaa.K
