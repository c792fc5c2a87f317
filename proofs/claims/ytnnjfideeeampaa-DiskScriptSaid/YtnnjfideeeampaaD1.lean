/- Disks: what each call does. -/
import Derived.Test.YtnnjfideeeampaaKS2
import Derived.Test.YtnnjfideeeampaaCh
import Derived.WalkSpells
import Derived.Deep.RegionWith
set_option linter.unusedVariables false
set_option linter.unusedSimpArgs false
namespace Go.Proofs.Ytnnjfideeeampaa.K
open Go.RowKit Go.Proofs.YtnnjfideeeampaaW.PrintWords Go.Proofs.YtnnjfideeeampaaW.PrintLast Go.Proofs.YtnnjfideeeampaaW.PrintMore Go.Proofs.Ytnnjfideeeampaa.U Go.Proofs.Ytnnjfideeeampaa.T

/-- A disk at block g: its bytes are B, n of them synced. -/
structure DiskR (t : TypeId) (w : World) (base g : Nat) (v : Value) (B : List Int) (n : Nat) : Prop where
  low : base ≤ g
  blk : w.heap[g]? = some (.cells [v, .int .i64 n].toArray t (0, 0))
  own : Own (Kd.int .u8) 5 w (g + 1) v B
  le : n ≤ B.length
  small : B.length ≤ 1000000
def footD (g : Nat) (v : Value) (k : Nat) : Prop := k = g ∨ v.ownBlock = some k
section
variable {t : TypeId} {w w' : World} {base g : Nat} {v : Value} {B : List Int} {n : Nat} {S : Nat → Prop}
theorem DiskR.lt (h : DiskR t w base g v B n) : g < w.heap.size := blk_lt' h.blk
theorem DiskR.ch (h : DiskR t w base g v B n) (hc : Ch w w' S) (hS : ∀ k, footD g v k → ¬ S k) : DiskR t w' base g v B n :=
  ⟨h.low, hc.blk h.blk (hS g (.inl rfl)), h.own.ch (flat_int .u8) hc (fun k hk => hS k (.inr hk)), h.le, h.small⟩
theorem DiskR.below (h : DiskR t w base g v B n) (hb : Below w.heap.size w w') : DiskR t w' base g v B n := h.ch (Ch.of_below hb (fun _ => False)) (fun _ _ => id)
theorem DiskR.foot (h : DiskR t w base g v B n) : ∀ k, footD g v k → g ≤ k := fun k hk => by
  rcases hk with rfl | hk
  · exact Nat.le_refl _
  · have := h.own.base_ k hk; omega
theorem DiskR.footlt (h : DiskR t w base g v B n) : ∀ k, footD g v k → k < w.heap.size := fun k hk => by
  rcases hk with rfl | hk
  · exact h.lt
  · exact h.own.lt k hk
theorem DiskR.c0 (h : DiskR t w base g v B n) : w.cell? ⟨g, 0, none⟩ = some v := cell_of_blk h.blk
theorem DiskR.c1 (h : DiskR t w base g v B n) : w.cell? ⟨g, 1, none⟩ = some (.int .i64 n) := cell_of_blk h.blk
theorem DiskR.f0 (h : DiskR t w base g v B n) : w.frozen? ⟨g, 0, none⟩ = false := frozen_of_blk h.blk
theorem DiskR.f1 (h : DiskR t w base g v B n) : w.frozen? ⟨g, 1, none⟩ = false := frozen_of_blk h.blk
end


theorem DiskR.set0 {t : TypeId} {w w1 : World} {base g : Nat} {v v' : Value} {B B' : List Int} {n : Nat} (h : DiskR t w base g v B n) (hg : w1.heap[g]? = w.heap[g]?) (ho : Own (Kd.int .u8) 5 w1 (g + 1) v' B') (hle : n ≤ B'.length) (hs : B'.length ≤ 1000000) : DiskR t (w1.setCell ⟨g, 0, none⟩ v') base g v' B' n := by
  have hb := hg.trans h.blk
  refine ⟨h.low, setCell_blk hb v', ?_, hle, hs⟩
  refine ho.ch (S := fun k => k = g) (flat_int .u8) ((Ch.refl w1 _).setCell ⟨g, 0, none⟩ v' rfl) (fun k hk e => ?_)
  have := ho.base_ k hk
  omega
theorem DiskR.set1 {t : TypeId} {w1 : World} {base g : Nat} {v' : Value} {B' : List Int} {n n' : Nat} (hlow : base ≤ g) (hb : w1.heap[g]? = some (.cells [v', .int .i64 n].toArray t (0, 0))) (ho : Own (Kd.int .u8) 5 w1 (g + 1) v' B') (hle : n' ≤ B'.length) (hs : B'.length ≤ 1000000) : DiskR t (w1.setCell ⟨g, 1, none⟩ (.int .i64 n')) base g v' B' n' := by
  refine ⟨hlow, setCell_blk hb _, ?_, hle, hs⟩
  refine ho.ch (S := fun k => k = g) (flat_int .u8) ((Ch.refl w1 _).setCell ⟨g, 1, none⟩ _ rfl) (fun k hk e => ?_)
  have := ho.base_ k hk
  omega
theorem int_neq_nil (w : World) (g : Nat) : True := trivial

theorem diskNew (w : World) : Calls Try.prog 12 #[] w fun e w' => ∃ g v, e = .returned (.pointer (some ⟨g, 0, none⟩)) ∧ DiskR 60 w' w.heap.size g v [] 0 ∧ Below w.heap.size w w' := by
  go_enter Try.func12, Try.ntmps12
  go_wp2_with fail
  go_ret
  refine ⟨_, .slice none 0 0, rfl, ⟨Nat.le_refl _, ?_, Own.nil _ _ _ _, Nat.le_refl _, by simp⟩, (Below.refl _ _).alloc (Nat.le_refl _) _⟩
  exact alloc_at w _

set_option maxHeartbeats 800000 in
theorem diskSync (w : World) (base g : Nat) (v : Value) (B : List Int) (n : Nat) (h : DiskR 60 w base g v B n) : Calls Try.prog 18 #[.pointer (some ⟨g, 0, none⟩)] w fun e w' => e = .returned (.tuple #[]) ∧ DiskR 60 w' base g v B B.length ∧ Ch w w' (footD g v) := by
  have H := Aside0.mk h
  obtain ⟨A, c, rfl, hc, _⟩ := h.own.reads
  have hc0 := h.c0
  have hc1 := h.c1
  have hf1 := h.f1
  clear h
  go_enter Try.func18, Try.ntmps18
  go_wp2_with fail
  go_end0
  exact ⟨rfl, DiskR.set1 H.out.low H.out.blk H.out.own (Nat.le_refl _) H.out.small, (Ch.refl w _).setCell _ _ (.inl rfl)⟩

set_option maxHeartbeats 800000 in
theorem diskAppend (w : World) (base g : Nat) (v : Value) (B : List Int) (n : Nat) (h : DiskR 60 w base g v B n) (A0 : Option Addr) (c0 : Nat) (l0 : List Int) (hr0 : Kd.C (Kd.int .u8) w A0 l0.length l0) (hs : B.length + l0.length ≤ 1000000) :
    Calls Try.prog 14 #[.pointer (some ⟨g, 0, none⟩), .slice A0 l0.length c0] w fun e w' => ∃ v', e = .returned (.tuple #[]) ∧ DiskR 60 w' base g v' (B ++ l0) n ∧ Ch w w' (footD g v) ∧ ∀ k, v'.ownBlock = some k → v.ownBlock = some k ∨ w.heap.size ≤ k := by
  have H := Aside0.mk h
  have HR0 := Aside0.mk hr0
  obtain ⟨A, c, rfl, hc, _⟩ := h.own.reads
  have hc0 := h.c0
  have hf0 := h.f0
  have hlt := h.lt
  clear h hr0
  go_enter Try.func14, Try.ntmps14
  go_wp2_with (at_builtin; go_loud (refine wpList_app_own (flat_int .u8) (g + 1) rfl _ _ 28 5 _ 1 rfl Try.underlying28 info_u8 rfl (by decide) (by decide) (.slice A B.length c) B l0 A0 _ c0 rfl rfl H.out.own rfl HR0.out hlt (by omega) ?_; intro v1 w1 hv1 hg1 hat1; obtain ⟨A1, c1, rfl, _, _⟩ := hv1.reads; have HV1 := Aside0.mk hv1; have HG1 := Aside0.mk hg1; have HAT := Aside0.mk hat1; have hbk := (hg1.block g hlt (fun e => by have := H.out.own.base_ g e.symm; omega)).trans H.out.blk; have hc0' : w1.cell? ⟨g, 0, none⟩ = some (.slice A B.length c) := cell_of_blk hbk; have hf0' : w1.frozen? ⟨g, 0, none⟩ = false := frozen_of_blk hbk; have HBK := Aside0.mk hbk; clear hv1 hg1 hat1 hbk))
  go_end0
  have hcw : Ch w w1 (footD g (.slice A B.length c)) := Ch.of_grown HG1.out (fun k hk => .inr hk)
  have hv := HV1.out
  have hat := HAT.out
  rw [List.length_append] at hv hat
  exact ⟨_, rfl, H.out.set0 (HBK.out.trans H.out.blk.symm) hv (by rw [List.length_append]; have := H.out.le; omega) (by rw [List.length_append]; exact hs), hcw.setCell _ _ (.inl rfl), hat⟩

set_option maxHeartbeats 800000 in
theorem diskUnsynced (w : World) (base g : Nat) (v : Value) (B : List Int) (n : Nat) (h : DiskR 60 w base g v B n) : Calls Try.prog 26 #[.pointer (some ⟨g, 0, none⟩)] w fun e w' => e = .returned (.int .i64 ((B.length : Int) - n)) ∧ Drawn0 w w' := by
  have H := Aside0.mk h
  obtain ⟨A, c, rfl, hc, _⟩ := h.own.reads
  have hc0 := h.c0
  have hc1 := h.c1
  have hle := h.le
  have hsm := h.small
  clear h
  go_enter Try.func26, Try.ntmps26
  go_wp2_with fail
  go_quiet (fail)
  go_wp2_with fail
  go_ret
  exact ⟨by first | rfl | (congr 2; unfold wrap64; omega), by repeat (first | exact Drawn0.refl _ | apply Drawn0.step)⟩

set_option maxHeartbeats 800000 in
theorem diskSynced (w : World) (base g : Nat) (v : Value) (B : List Int) (n : Nat) (h : DiskR 60 w base g v B n) : Calls Try.prog 25 #[.pointer (some ⟨g, 0, none⟩)] w fun e w' => e = .returned (.int .i64 n) ∧ w' = w := by
  have hc1 := h.c1
  clear h
  go_enter Try.func25, Try.ntmps25
  go_wp2_with fail
  go_ret
  exact ⟨rfl, rfl⟩

set_option maxHeartbeats 800000 in
theorem diskCut_no (w : World) (base g : Nat) (v : Value) (B : List Int) (n : Nat) (h : DiskR 60 w base g v B n) (m : Int) (hm : m < 0 ∨ (B.length : Int) < m) : Calls Try.prog 21 #[.pointer (some ⟨g, 0, none⟩), .int .i64 m] w fun e w' => e = .returned (.bool false) ∧ w' = w := by
  obtain ⟨A, c, rfl, hc, _⟩ := h.own.reads
  have hc0 := h.c0
  have hsm := h.small
  clear h
  by_cases h1 : m < 0
  · clear hm
    go_enter Try.func21, Try.ntmps21
    go_wp2_with fail
    go_ret
    exact ⟨rfl, rfl⟩
  · have h2 : (B.length : Int) < m := by omega
    clear hm
    go_enter Try.func21, Try.ntmps21
    go_wp2_with fail
    go_ret
    exact ⟨rfl, rfl⟩
set_option maxHeartbeats 800000 in
theorem diskCut_ok (w : World) (base g : Nat) (A : Option Addr) (l c : Nat) (B : List Int) (n j : Nat) (h : DiskR 60 w base g (.slice A l c) B n) (hj : j ≤ B.length) : Calls Try.prog 21 #[.pointer (some ⟨g, 0, none⟩), .int .i64 j] w fun e w' => e = .returned (.bool true) ∧ DiskR 60 w' base g (.slice A j c) (B.take j) j ∧ Ch w w' (footD g (.slice A l c)) := by
  have H := Aside0.mk h
  obtain ⟨hl, hc, _⟩ := h.own.is
  subst hl
  have hc0 := h.c0
  have hc1 := h.c1
  have hf0 := h.f0
  have hf1 := h.f1
  have hsm := h.small
  have hbk := setCell_blk (j := 0) h.blk (.slice A j c)
  have hc1' : (w.setCell ⟨g, 0, none⟩ (.slice A j c)).cell? ⟨g, 1, none⟩ = some (.int .i64 n) := cell_of_blk hbk
  have hf1' : (w.setCell ⟨g, 0, none⟩ (.slice A j c)).frozen? ⟨g, 1, none⟩ = false := frozen_of_blk hbk
  have HBK := Aside0.mk hbk
  clear h hbk
  go_enter Try.func21, Try.ntmps21
  go_wp2_with fail
  go_ret
  refine ⟨rfl, DiskR.set1 H.out.low HBK.out ?_ (by rw [List.length_take]; omega) (by rw [List.length_take]; omega), ((Ch.refl w _).setCell _ _ (.inl rfl)).setCell _ _ (.inl rfl)⟩
  have ho : Own (Kd.int .u8) 5 w (g + 1) (.slice A j c) (B.take j) := Kd.R_take H.out.own hj
  refine ho.ch (S := fun k => k = g) (flat_int .u8) ((Ch.refl w _).setCell ⟨g, 0, none⟩ _ rfl) (fun k hk e => ?_)
  have := ho.base_ k hk
  omega

theorem cloneB (A0 : Option Addr) (c0 : Nat) (l0 : List Int) (w : World) (hr0 : Kd.C (Kd.int .u8) w A0 l0.length l0) (hl : l0.length ≤ 100000000) :
    Calls Try.prog 38 #[.slice A0 l0.length c0] w fun e w' => ∃ v, e = .returned v ∧ Own (Kd.int .u8) 5 w' w.heap.size v l0 ∧ Below w.heap.size w w' := by
  have HR0 := Aside0.mk hr0
  have heq : ∀ w A n c, (binOp .eql 28 (.slice A n c) (.slice none 0 0)).run Try.prog w = .ok (.bool A.isNone) w := fun w A n c => Lib.run_eql_slice_nil w 28 5 A n c 0 0 Try.underlying28
  cases A0 with
  | none =>
    have h0 : l0 = [] := by
      rcases Nat.eq_zero_or_pos l0.length with h | h
      · exact List.eq_nil_of_length_eq_zero h
      · obtain ⟨ad, e, _⟩ := hr0.2.2 h
        cases e
    subst h0
    go_enter Try.func38, Try.ntmps38
    go_wp2_with fail
    go_ret
    exact ⟨_, rfl, Own.nil _ _ _ _, Below.refl _ _⟩
  | some ad =>
    clear hr0
    have hba : Below w.heap.size w (w.alloc (.cells #[] 5)) := (Below.refl _ _).alloc (Nat.le_refl _) _
    have hoe : Own (Kd.int .u8) 5 (w.alloc (.cells #[] 5)) w.heap.size (.slice (some ⟨w.heap.size, 0, none⟩) 0 0) [] :=
      own_nums (cur := []) (alloc_at w _) (Nat.le_refl _) rfl (Nat.le_refl _) (by decide) rfl rfl
    go_enter Try.func38, Try.ntmps38
    go_wp2_with (at_builtin; refine wpList_append_runs rfl _ _ _ _ rfl _ _ rfl rfl (append_own_runs Try.prog (flat_int .u8) 28 _ _ 1 Try.underlying28 info_u8 rfl (by decide) hoe (some ad) l0.length c0 rfl (Kd.C_below HR0.out hba) hba.size (by simp; omega) (by simp; omega)) ?_; rintro v2 w2 ⟨hv2, hg2⟩; have HV2 := Aside0.mk hv2; have HG2 := Aside0.mk hg2; clear hv2 hg2)
    go_ret
    exact ⟨_, rfl, HV2.out, hba.grown HG2.out hba.size (fun k hk => by cases hk; exact Nat.le_refl _)⟩

set_option maxHeartbeats 800000 in
theorem diskBytes (w : World) (base g : Nat) (v : Value) (B : List Int) (n : Nat) (h : DiskR 60 w base g v B n) : Calls Try.prog 23 #[.pointer (some ⟨g, 0, none⟩)] w fun e w' => ∃ u, e = .returned u ∧ Own (Kd.int .u8) 5 w' w.heap.size u B ∧ Below w.heap.size w w' := by
  have H := Aside0.mk h
  obtain ⟨A, c, rfl, hc, hr⟩ := h.own.reads
  have hc0 := h.c0
  have HR := Aside0.mk hr
  have hsm := h.small
  clear h hr
  go_enter Try.func23, Try.ntmps23
  go_wp2_with fail
  refine (cloneB A c B w HR.out (by omega)).mono ?_
  rintro e w1 ⟨u, rfl, hu, hb⟩
  have HU := Aside0.mk hu
  have HB := Aside0.mk hb
  clear hu hb
  go_wp2_with fail
  go_ret
  exact ⟨_, rfl, HU.out, HB.out⟩

theorem i64_in' (n : Int) (h0 : -9223372036854775808 ≤ n) (h1 : n ≤ 9223372036854775807) : IntKind.i64.wrap n = n := IntWalk.i64_in n (by omega)
/-- Where a crash cuts. -/
def crashN (len n : Nat) (keep : Int) : Nat := n + (keep % 18446744073709551616 % ((len : Int) - n + 1)).toNat
theorem crashN_le (len n : Nat) (keep : Int) (h : n ≤ len) : n ≤ crashN len n keep ∧ crashN len n keep ≤ len := by
  have h1 := Int.emod_nonneg (keep % 18446744073709551616) (show (len : Int) - n + 1 ≠ 0 by omega)
  have h2 := Int.emod_lt_of_pos (keep % 18446744073709551616) (show 0 < (len : Int) - n + 1 by omega)
  unfold crashN
  omega

set_option maxHeartbeats 1600000 in
theorem diskCrash (w : World) (base g : Nat) (A : Option Addr) (l c : Nat) (B : List Int) (n : Nat) (h : DiskR 60 w base g (.slice A l c) B n) (keep : Int) (j : Nat) (hj : j = crashN B.length n keep) : Calls Try.prog 19 #[.pointer (some ⟨g, 0, none⟩), .int .i64 keep] w fun e w' => e = .returned (.tuple #[]) ∧ DiskR 60 w' base g (.slice A j c) (B.take j) j ∧ Ch w w' (footD g (.slice A l c)) := by
  have H := Aside0.mk h
  obtain ⟨hl, hc, _⟩ := h.own.is
  subst hl
  have hc1 := h.c1
  have hle := h.le
  have hsm := h.small
  have hjl := crashN_le B.length n keep hle
  rw [← hj] at hjl
  obtain ⟨u, hu⟩ : ∃ u : Int, u = (B.length : Int) - n := ⟨_, rfl⟩
  obtain ⟨k0, hk0⟩ : ∃ k0 : Int, k0 = keep % 18446744073709551616 := ⟨_, rfl⟩
  obtain ⟨r, hr⟩ : ∃ r : Int, r = k0 % (u + 1) := ⟨_, rfl⟩
  have hr0 : 0 ≤ r := by rw [hr]; exact Int.emod_nonneg _ (by omega)
  have hr1 : r < u + 1 := by rw [hr]; exact Int.emod_lt_of_pos _ (by omega)
  have hjr : (j : Int) = n + r := by rw [hj, crashN, ← hk0, ← hu, ← hr]; omega
  have HU := Aside0.mk hu
  have w1 : IntKind.i64.wrap (u + 1) = u + 1 := i64_in' _ (by omega) (by omega)
  have w2 : IntKind.u64.wrap (u + 1) = u + 1 := by rw [u64_wrap]; omega
  have w3 : IntKind.u64.wrap keep = k0 := by rw [u64_wrap, hk0]
  have w4 : k0.tmod (u + 1) = r := by rw [hr]; exact Int.tmod_eq_emod_of_nonneg (by omega)
  have w5 : IntKind.u64.wrap r = r := by rw [u64_wrap]; omega
  have w6 : IntKind.i64.wrap r = r := i64_in' _ (by omega) (by omega)
  have w7 : IntKind.i64.wrap ((n : Int) + r) = (j : Int) := by rw [hjr]; exact i64_in' _ (by omega) (by omega)
  have w8 : (u + 1 == 0) = false := beq_eq_false_iff_ne.2 (by omega)
  have w9 : (u + 1 = 0) = False := eq_false (by omega)
  clear h hj hu hk0 hr hjr hr0 hr1
  go_enter Try.func19, Try.ntmps19
  go_wp2_with fail
  go_region_with (first
    | (go_at_call 26; refine (diskUnsynced _ base g _ B n (H.out.below (below_drew1 (Below.refl _ _)))).mono ?_; rintro e w5 ⟨rfl, ⟨m5, rfl⟩⟩; rw [← HU.out])
    | (go_at_call 21; refine (diskCut_ok _ base g A B.length c B n j (H.out.below (pw_below_drewN (Below.refl _ _) _)) hjl.2).mono ?_; rintro e w6 ⟨rfl, hd6, hc6⟩; have HD6 := Aside0.mk hd6; have HC6 := Aside0.mk hc6; clear hd6 hc6))
  all_goals (go_end0; exact ⟨rfl, HD6.out, (Ch.of_below (pw_below_drewN (Below.refl _ _) _) _).trans HC6.out (fun k _ h => h)⟩)
end Go.Proofs.Ytnnjfideeeampaa.K
