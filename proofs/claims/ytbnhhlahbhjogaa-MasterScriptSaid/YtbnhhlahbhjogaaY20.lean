/- The master's calls once more; what every program answers. WRITTEN BY wip/gen_y20.py. -/
import Derived.Test.YtbnhhlahbhjogaaY15
import Derived.Test.YtbnhhlahbhjogaaY16
import Derived.Test.YtbnhhlahbhjogaaY19
set_option linter.unusedVariables false
set_option linter.unusedSimpArgs false
set_option maxRecDepth 100000
namespace Go.Proofs.Ytbnhhlahbhjogaa.K
open Go.RowKit Go.Proofs.YtbnhhlahbhjogaaW.PrintWords Go.Proofs.YtbnhhlahbhjogaaW.PrintLast Go.Proofs.YtbnhhlahbhjogaaW.PrintMore Go.Proofs.Ytbnhhlahbhjogaa.U Go.Proofs.Ytbnhhlahbhjogaa.T

section
variable {w w' : World} {gM : Nat} {F S : Nat → Prop} {c : CfgD} {m : MaS}
theorem rWake (p : MaR w gM F c m) (B : Int) (hB : MaB m B) (hB6 : B ≤ 1000000) : Calls Try.prog 18 #[.pointer (some ⟨gM, 0, none⟩)] w fun e w' => ∃ v, e = .returned v ∧ MaPostL w gM F c (wakeF c m).1 v (wakeF c m).2 w' := by
  obtain ⟨_, _, _, _, _, _, p⟩ := p
  exact mWake p B hB hB6
theorem rHear (p : MaR w gM F c m) (frm : Int) (x : MsgD) (A1 A2 : Option Addr) (c1 c2 : Nat) (hx : ∀ w', Ch w w' F → MsgC w' x A1 A2 c1 c2) (hr0 : 0 ≤ m.round) (hr1 : m.round ≤ 1000000) :
    Calls Try.prog 14 #[.pointer (some ⟨gM, 0, none⟩), .int .i64 frm, msgV x (.slice A1 x.set.length c1) (.slice A2 x.prs.length c2)] w fun e w' => ∃ v1 v2, e = .returned (.tuple #[v1, v2]) ∧ MaPostH w gM F c (hearF c m frm x).1 v1 (hearF c m frm x).2.1 v2 (hearF c m frm x).2.2 w' := by
  obtain ⟨_, _, _, _, _, _, p⟩ := p
  exact mHear p frm x A1 A2 c1 c2 hx hr0 hr1
theorem rState (p : MaR w gM F c m) : Calls Try.prog 16 #[.pointer (some ⟨gM, 0, none⟩)] w fun e w' => e = .returned (.tuple #[.int .i64 m.st, .int .i64 m.why]) ∧ Below w.heap.size w w' := by
  obtain ⟨_, _, _, _, _, _, p⟩ := p
  exact mState p
theorem rNow (p : MaR w gM F c m) : Calls Try.prog 22 #[.pointer (some ⟨gM, 0, none⟩)] w fun e w' => e = .returned (.int .i64 m.now) ∧ w' = w := by
  obtain ⟨_, _, _, _, _, _, p⟩ := p
  exact mNow p
theorem rTick (p : MaR w gM F c m) (h0 : 0 ≤ m.now) (h1 : m.now ≤ 1099511627776) : Calls Try.prog 23 #[.pointer (some ⟨gM, 0, none⟩)] w fun e w' => e = .returned (.tuple #[]) ∧ MaR w' gM F c { m with now := min (m.now + 1) 1099511627776 } ∧ Ch w w' F := by
  obtain ⟨_, _, _, _, _, _, p⟩ := p
  exact (mTick p h0 h1).mono (fun e w' h => ⟨h.1, ⟨_, _, _, _, _, _, h.2.1⟩, h.2.2⟩)
theorem rWinner (p : MaR w gM F c m) (n : Int) : Calls Try.prog 33 #[.pointer (some ⟨gM, 0, none⟩), .int .i64 n] w fun e w' => e = .returned (.tuple #[.int .i64 (winV m n).1, .bool (winV m n).2]) ∧ w' = w := by
  obtain ⟨_, _, _, _, _, _, p⟩ := p
  exact mWinner p n
theorem rWinners (p : MaR w gM F c m) : Calls Try.prog 29 #[.pointer (some ⟨gM, 0, none⟩)] w fun e w' => ∃ v, e = .returned v ∧ Own kI 3 w' w.heap.size v (winners m) ∧ Below w.heap.size w w' := by
  obtain ⟨_, _, _, _, _, _, p⟩ := p
  exact mWinners p
theorem LetsP.ch {base : Nat} {v : Value} {ls : List FLet} (h : LetsP w base v ls) (hc : Ch w w' S) (hS : ∀ i, v.ownBlock = some i → ¬ S i) : LetsP w' base v ls := Own.ch flat_LR h hc hS
theorem MaPostH.parts {m' : MaS} {v1 v2 : Value} {ls : List FLet} {rs : List RecD} (h : MaPostH w gM F c m' v1 ls v2 rs w') : ∃ F' B A1 n1 A2 n2, v1 = .slice A1 ls.length n1 ∧ v2 = .slice A2 rs.length n2 ∧ Kd.C kLet w' A1 ls.length (ls.map FLet.d) ∧ Kd.C kRec w' A2 rs.length rs ∧ MaR w' gM F' c m' ∧ (∀ i, F' i → F i ∨ w.heap.size ≤ i) ∧ (∀ i, F' i → i < B) ∧ w.heap.size ≤ B ∧ LetsP w' B v1 ls ∧ RecsP w' B v2 rs ∧ Ch w w' F := by
  obtain ⟨F', B, h1, h2, h3, h4, h5, h6, h7⟩ := h
  obtain ⟨A1, n1, e1, k1⟩ := h5.reads
  obtain ⟨A2, n2, e2, k2⟩ := h6.reads
  exact ⟨F', B, A1, n1, A2, n2, e1, e2, k1, k2, h1, h2, h3, h4, h5, h6, h7⟩
end

/-! ### what every program answers -/
def smallC : CfgD := ⟨smallJ 1, 1, 2, 3⟩
theorem smallC_may : CfgMay smallC := by
  have h := small_may 1 1 (by omega) (by omega)
  exact ⟨h.job, h.workers, by show (1 : Int) ≤ 2 ∧ (2 : Int) ≤ 3; decide, by show (1 : Int) ≤ 3 ∧ (3 : Int) ≤ 50; decide⟩
set_option maxHeartbeats 1600000 in
theorem small22 (w : World) : Calls Try.prog 39 #[] w fun e w' => ∃ A1 A2, e = .returned (.agg #[.slice A1 1 1, .int .i64 1, .slice A2 1 1, .slice none 0 0, .slice A2 1 1, .int .i64 1, .int .i64 1, .int .i64 1, .slice none 0 0, .int .i64 1, .int .i64 2, .int .i64 3]) ∧ JobC w' (smallJ 1) A1 A2 none A2 none 1 1 0 1 0 ∧ Below w.heap.size w w' := by
  have huc := Try.underlying28
  go_enter Try.func39, Try.ntmps39
  go_wp2_with fail
  refine bodyPost_ret (v := .agg #[.slice (some ⟨w.heap.size + 1 + 1, 0, none⟩) 1 1, .int .i64 1, .slice (some ⟨w.heap.size + 1, 0, none⟩) 1 1, .slice none 0 0, .slice (some ⟨w.heap.size + 1, 0, none⟩) 1 1, .int .i64 1, .int .i64 1, .int .i64 1, .slice none 0 0, .int .i64 1, .int .i64 2, .int .i64 3]) (by simp [results, Try.results39, go_sem]) rfl ?_
  refine ⟨_, _, rfl, small_rows w _ 1, ?_⟩
  exact (((Below.refl _ _).alloc (Nat.le_refl _) _).alloc (by rw [alloc_sizej]; omega) _).alloc (by rw [alloc_sizej, alloc_sizej]; omega) _
def aw1 : MaS := ⟨0, [⟨1, 1, 0, false, 0, []⟩], [false, false, false, false], 0, 0, 0⟩
def aw2 : MaS := ⟨0, [⟨1, 1, 0, true, 1, [0]⟩], [false, false, false, false], 0, 0, 0⟩
def aw3 : MaS := ⟨0, [⟨1, 1, 0, true, 1, [0]⟩], [true, false, false, false], 1, 0, 0⟩
def awL : FLet := ⟨1, 1, 0, 1, 0, 0, 0⟩
def awX : MsgD := ⟨4, 0, 1, 0, 0, 0, 0, 0, [0], []⟩
def awY : MsgD := ⟨8, 0, 0, 0, 0, 0, 0, 0, [], []⟩
theorem aw_new : newF smallC [] = ⟨0, [⟨0, 0, 0, false, 0, []⟩], [false, false, false, false], 0, 0, 0⟩ := by kernel_rfl
theorem aw_wake : wakeF smallC (newF smallC []) = (aw1, [awL]) := by kernel_rfl
theorem aw_wake2 : wakeF smallC aw1 = (aw1, []) := by kernel_rfl
theorem aw_done : hearF smallC aw1 1 awX = (aw2, [], [⟨1, 0, 0, 1, 0, [0], []⟩]) := by kernel_rfl
theorem aw_ready : hearF smallC aw2 1 awY = (aw3, [], [⟨2, 0, 0, 0, 0, [], []⟩]) := by kernel_rfl
theorem let_C {w : World} {x : LetD} {A1 A2 : Option Addr} {c1 c2 : Nat} (hm : MsgC w x.m A1 A2 c1 c2) {g : Nat} {t : TypeId} {fr : Nat × Nat} (h : w.heap[g]? = some (.cells (rawL x (.slice A1 x.m.set.length c1) (.slice A2 x.m.prs.length c2)).toArray t fr)) : Kd.C kLet w (some ⟨g, 0, none⟩) 1 [x] := C_one h (kLet_mk hm)
set_option maxHeartbeats 12800000 in
theorem awake22 (w : World) : Calls Try.prog 11 #[] w fun e w' => e = .returned (.bool true) ∧ Below w.heap.size w w' := by
  go_enter Try.func11, Try.ntmps11
  go_wp2_with fail
  refine (small22 w).mono ?_
  rintro e w1 ⟨A1, A2, rfl, hj1, hb1⟩
  have HJ1 := Aside0.mk hj1
  have HB1 := Aside0.mk hb1
  clear hj1 hb1
  go_wp2_with fail
  refine (mNew smallC ⟨A1, A2, none, A2, none, 1, 1, 0, 1, 0⟩ [] none 0 w1 HJ1.out smallC_may (C_zero _ _)).mono ?_
  rintro e w2 ⟨gM, F, rfl, hM, hF, hb2⟩
  have HM2 := Aside0.mk hM
  have HF2 := Aside0.mk hF
  have HB2 := Aside0.mk (below_then HB1.out HB1.out.size hb2)
  have HFL := Aside0.mk hM.flt
  have HW : Aside0 (Calls Try.prog 18 #[.pointer (some ⟨gM, 0, none⟩)] w2 fun e w' => ∃ v, e = .returned v ∧ MaPostL w2 gM F smallC aw1 v [awL] w') := ⟨by
    have h := rWake HM2.out 0 (by rw [aw_new]; constructor <;> simp) (by omega)
    rw [aw_wake] at h
    exact h⟩
  clear hM hF hb2
  go_wp2_with fail
  refine HW.out.mono ?_
  rintro e w3 ⟨v3, rfl, hM3, hL3, hc3⟩
  obtain ⟨A3, n3, rfl, hC3⟩ := hL3.reads
  have HM3 := Aside0.mk hM3
  have HL3 := Aside0.mk hL3
  have HC3 := Aside0.mk hc3
  have HW3 : Aside0 (Calls Try.prog 18 #[.pointer (some ⟨gM, 0, none⟩)] w3 fun e w' => ∃ v, e = .returned v ∧ MaPostL w3 gM F smallC aw1 v [] w') := ⟨by
    have h := rWake HM3.out 1 (by unfold aw1; constructor <;> simp) (by omega)
    rw [aw_wake2] at h
    exact h⟩
  clear hM3 hL3 hc3 hC3
  go_wp2_with fail
  refine HW3.out.mono ?_
  rintro e w4 ⟨v4, rfl, hM4, hL4, hc4⟩
  obtain ⟨A4, n4, rfl, hC4⟩ := hL4.reads
  obtain ⟨w5, hw5⟩ : ∃ w5, w5 = w4.alloc (.cells #[.int .i64 0] 3) := ⟨_, rfl⟩
  obtain ⟨g5, hg5⟩ : ∃ g5, g5 = w4.heap.size := ⟨_, rfl⟩
  have hb5 : Below w4.heap.size w4 w5 := by rw [hw5]; exact (Below.refl _ _).alloc (Nat.le_refl _) _
  have hc5 : w5.heap[g5]? = some (.cells ([.int .i64 0] : List Value).toArray 3 (0, 0)) := by rw [hw5, hg5]; exact alloc_at w4 _
  have HC4 := Aside0.mk hc4
  have HW5 := Aside0.mk hw5
  have HG5 := Aside0.mk hg5
  have HB5 := Aside0.mk hb5
  have hfl4 : ∀ i, F i → i < w4.heap.size := hM4.flt
  have HH5 : Aside0 (Calls Try.prog 14 #[.pointer (some ⟨gM, 0, none⟩), .int .i64 1, .agg #[.int .i64 4, .int .i64 0, .int .i64 1, .int .i64 0, .int .i64 0, .int .i64 0, .int .i64 0, .int .i64 0, .slice (some ⟨g5, 0, none⟩) 1 1, .slice none 0 0]] w5 fun e w' => ∃ v1 v2, e = .returned (.tuple #[v1, v2]) ∧ MaPostH w5 gM F smallC aw2 v1 [] v2 [⟨1, 0, 0, 1, 0, [0], []⟩] w') := ⟨by
    have h := rHear (hM4.below hb5) 1 awX (some ⟨g5, 0, none⟩) none 1 0 (fun w' hc => ⟨int_C w' 0 (hc.blk hc5 (fun hi => by have := hfl4 _ hi; omega)), C_zero _ _, Nat.le_refl _, Nat.le_refl _⟩) (by decide) (by decide)
    rw [aw_done] at h
    exact h⟩
  clear hM4 hL4 hc4 hC4 hw5 hg5 hb5 hc5 hfl4
  go_wp2_with fail
  rw [show w4.alloc (.cells #[.int .i64 0] 3) = w5 from HW5.out.symm, ← HG5.out]
  refine HH5.out.mono ?_
  rintro e w6 ⟨v1, v2, rfl, hP6⟩
  obtain ⟨F6, B6, A5, n5, A6, n6, rfl, rfl, hk5, hk6, hM6, hF6, hFB6, hB6, hL6, hR6, hc6⟩ := hP6.parts
  have HF6 := Aside0.mk hF6
  have HC6 := Aside0.mk hc6
  have HFL6 := Aside0.mk hM6.flt
  have HH6 : Aside0 (Calls Try.prog 14 #[.pointer (some ⟨gM, 0, none⟩), .int .i64 1, .agg #[.int .i64 8, .int .i64 0, .int .i64 0, .int .i64 0, .int .i64 0, .int .i64 0, .int .i64 0, .int .i64 0, .slice none 0 0, .slice none 0 0]] w6 fun e w' => ∃ v1 v2, e = .returned (.tuple #[v1, v2]) ∧ MaPostH w6 gM F6 smallC aw3 v1 [] v2 [⟨2, 0, 0, 0, 0, [], []⟩] w') := ⟨by
    have h := rHear hM6 1 awY none none 0 0 (fun w' hc => ⟨C_zero _ _, C_zero _ _, Nat.le_refl _, Nat.le_refl _⟩) (by decide) (by decide)
    rw [aw_ready] at h
    exact h⟩
  clear hP6 hk5 hk6 hM6 hF6 hFB6 hB6 hL6 hR6 hc6
  go_wp2_with fail
  refine HH6.out.mono ?_
  rintro e w7 ⟨v1, v2, rfl, hP7⟩
  obtain ⟨F7, B7, A7, n7, A8, n8, rfl, rfl, hk7, hk8, hM7, hF7, hFB7, hB7, hL7, hR7, hc7⟩ := hP7.parts
  have HK8 := Aside0.mk hk8
  have HST := Aside0.mk (rState hM7)
  have HL7 : Aside0 (LetsP w7 w2.heap.size (.slice A3 [awL].length n3) [awL]) := ⟨by
    have o1 := fun i hi => Own.base_ HL3.out i hi
    have o2 := fun i hi => Own.lt HL3.out i hi
    have l4 := HL3.out.ch HC4.out (fun i hi e => by have := o1 i hi; have := HFL.out i e; omega)
    have l5 := l4.below HB5.out
    have l6 := l5.ch HC6.out (fun i hi e => by have := o1 i hi; have := HFL.out i e; omega)
    exact l6.ch hc7 (fun i hi e => by
      have := o1 i hi
      have := o2 i hi
      have := HC4.out.size
      have := HB5.out.size
      rcases HF6.out i e with h | h
      · have := HFL.out i h
        omega
      · omega)⟩
  have hcw : Ch w2 w7 (fun i => w2.heap.size ≤ i ∨ F i) := by
    have k3 := HC3.out.mono (T := fun i => w2.heap.size ≤ i ∨ F i) (fun i h => .inr h)
    have k4 := k3.trans (HC4.out.mono (T := fun i => w2.heap.size ≤ i ∨ F i) (fun i h => .inr h)) (fun _ _ h => h)
    have k5 := k4.trans (Ch.of_below (S := fun i => w2.heap.size ≤ i ∨ F i) HB5.out) (fun _ _ h => h)
    have k6 := k5.trans (HC6.out.mono (T := fun i => w2.heap.size ≤ i ∨ F i) (fun i h => .inr h)) (fun _ _ h => h)
    refine k6.trans hc7 (fun i hlt h => ?_)
    rcases HF6.out i h with h | h
    · exact .inr h
    · have := k5.size
      exact .inl (by omega)
  have HB7 : Aside0 (Below w.heap.size w w7) := ⟨Below.ch HB2.out hcw HB2.out.size (fun i h => by
    rcases h with h | h
    · exact Nat.le_trans HB2.out.size h
    · exact Nat.le_trans HB1.out.size (HF2.out i h))⟩
  clear hP7 hk7 hk8 hM7 hF7 hFB7 hB7 hL7 hR7 hc7 hcw
  go_wp2_with fail
  refine HST.out.mono ?_
  rintro e w8 ⟨rfl, hb8⟩
  have HB8 := Aside0.mk (below_then HB7.out HB7.out.size hb8)
  have HL8 := Aside0.mk (HL7.out.below hb8)
  have HK8' := Aside0.mk (Kd.C_below HK8.out hb8)
  unfold aw3
  clear hb8
  obtain ⟨w9, hw9⟩ : ∃ w9, w9 = w8.alloc (.cells #[.int .i64 0, .int .i64 1, .int .i64 1, .int .i64 0, .int .i64 1, .int .i64 0, .int .i64 0, .int .i64 0, .int .i64 0, .int .i64 0, .slice none 0 0, .slice none 0 0] 51) := ⟨_, rfl⟩
  have hb9 : Below w8.heap.size w8 w9 := by rw [hw9]; exact (Below.refl _ _).alloc (Nat.le_refl _) _
  have hc9 : Kd.C kLet w9 (some ⟨w8.heap.size, 0, none⟩) 1 [awL.d] := by rw [hw9]; exact let_C (A1 := none) (A2 := none) (c1 := 0) (c2 := 0) ⟨C_zero _ _, C_zero _ _, Nat.le_refl _, Nat.le_refl _⟩ (alloc_at w8 _)
  have HW9 := Aside0.mk hw9
  have hC9 : Kd.C kLet w9 A3 1 [awL.d] := by
    obtain ⟨A', n', e', hC'⟩ := (HL8.out.below hb9).reads
    injection e' with e1 e2 e3
    rw [e1]
    exact hC'
  have HSL : Aside0 (Calls Try.prog 17 #[.slice A3 1 n3, .slice (some ⟨w8.heap.size, 0, none⟩) 1 1] w9 fun e w' => e = .returned (.bool true) ∧ Below w9.heap.size w9 w') := ⟨sameLetters A3 n3 [awL.d] (some ⟨w8.heap.size, 0, none⟩) 1 [awL.d] w9 hC9 hc9 (by decide) true (by simp)⟩
  have HB9 := Aside0.mk (below_then HB8.out HB8.out.size hb9)
  have HK9 := Aside0.mk (Kd.C_below HK8'.out hb9)
  clear hw9 hb9 hc9 hC9
  go_wp2_with fail
  rw [show w8.alloc (.cells #[.int .i64 0, .int .i64 1, .int .i64 1, .int .i64 0, .int .i64 1, .int .i64 0, .int .i64 0, .int .i64 0, .int .i64 0, .int .i64 0, .slice none 0 0, .slice none 0 0] 51) = w9 from HW9.out.symm]
  refine HSL.out.mono ?_
  rintro e wa ⟨rfl, hba⟩
  obtain ⟨wb, hwb⟩ : ∃ wb, wb = wa.alloc (.cells #[.int .i64 2, .int .i64 0, .int .i64 0, .int .i64 0, .int .i64 0, .slice none 0 0, .slice none 0 0] 90) := ⟨_, rfl⟩
  have hbb : Below wa.heap.size wa wb := by rw [hwb]; exact (Below.refl _ _).alloc (Nat.le_refl _) _
  have hcb : Kd.C kRec wb (some ⟨wa.heap.size, 0, none⟩) 1 [⟨2, 0, 0, 0, 0, [], []⟩] := by rw [hwb]; exact C_one (alloc_at wa _) (kRec_mk ⟨C_zero _ _, C_zero _ _, Nat.le_refl _, Nat.le_refl _⟩)
  have hkb := Kd.C_below (Kd.C_below HK9.out hba) hbb
  have HSR : Aside0 (Calls Try.prog 40 #[.slice A8 1 n8, .slice (some ⟨wa.heap.size, 0, none⟩) 1 1] wb fun e w' => e = .returned (.bool true) ∧ Below wb.heap.size wb w') := ⟨sameRecords A8 n8 [⟨2, 0, 0, 0, 0, [], []⟩] (some ⟨wa.heap.size, 0, none⟩) 1 [⟨2, 0, 0, 0, 0, [], []⟩] wb hkb hcb (by decide) true (by simp)⟩
  have HWB := Aside0.mk hwb
  have HBB := Aside0.mk (below_then (below_then HB9.out HB9.out.size hba) (Nat.le_trans HB9.out.size hba.size) hbb)
  clear hwb hbb hcb hkb hba
  go_wp2_with fail
  rw [show wa.alloc (.cells #[.int .i64 2, .int .i64 0, .int .i64 0, .int .i64 0, .int .i64 0, .slice none 0 0, .slice none 0 0] 90) = wb from HWB.out.symm]
  refine HSR.out.mono ?_
  rintro e wc ⟨rfl, hbc⟩
  have HBC := Aside0.mk (below_then HBB.out HBB.out.size hbc)
  clear hbc
  go_wp2_with fail
  go_ret
  exact ⟨rfl, HBC.out⟩
end Go.Proofs.Ytbnhhlahbhjogaa.K
