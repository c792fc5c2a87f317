/- Cutting pairs: sizes, how many, each chunk. -/
import Derived.Test.YtocooepdibgelaaKQ2
import Derived.Test.YtocooepdibgelaaKL
import Derived.WalkSpells
set_option linter.unusedVariables false
set_option linter.unusedSimpArgs false
namespace Go.Proofs.Ytocooepdibgelaa.K
open Go.RowKit Go.Proofs.YtocooepdibgelaaW.PrintWords Go.Proofs.YtocooepdibgelaaW.PrintLast Go.Proofs.YtocooepdibgelaaW.PrintMore Go.Proofs.Ytocooepdibgelaa.U Go.Proofs.Ytocooepdibgelaa.T
attribute [local go_sem high] eqA_pair

theorem two_andc (w w1 w2 : World) (h : Below w.heap.size w w1) (k : Below w1.heap.size w1 w2) : Below w.heap.size w w2 := below_then h h.size k
def chunksN (n size : Int) : Int := if n < 1 ∨ size < 1 then 0 else (n - 1) / size + 1
def sizeN (chunk attempt : Int) : Int := if attempt.tmod 2 = 0 then chunk else chunk + 1
def chunkL (ps : List PairD) (size seq : Int) : List PairD := if seq < 0 ∨ chunksN ps.length size ≤ seq then [] else (ps.drop (seq * size).toNat).take size.toNat
theorem chunksN_range (n size : Int) (hn : n ≤ 9223372036854775807) : 0 ≤ chunksN n size ∧ chunksN n size ≤ 9223372036854775807 := by
  unfold chunksN
  split
  · omega
  · have h1 : 0 ≤ (n - 1) / size := Int.ediv_nonneg (by omega) (by omega)
    have h2 : (n - 1) / size ≤ n - 1 := Int.ediv_le_self _ (by omega)
    omega
theorem chunkL_at (n : Nat) (size seq : Int) (h0 : 0 ≤ seq) (h1 : seq < chunksN n size) : 1 ≤ size ∧ 0 ≤ seq * size ∧ seq * size < n := by
  unfold chunksN at h1
  split at h1
  · omega
  · have hs : 1 ≤ size := by omega
    have h2 : seq ≤ (n - 1) / size := by omega
    have h3 := (Int.le_ediv_iff_mul_le (by omega)).1 h2
    exact ⟨hs, Int.mul_nonneg h0 (by omega), by omega⟩

set_option maxHeartbeats 800000 in
theorem chunks (n size : Int) (w : World) (hn : n ≤ 9223372036854775807) :
    Calls Try.prog 47 #[.int .i64 n, .int .i64 size] w fun e w' => e = .returned (.int .i64 (chunksN n size)) ∧ w' = w := by
  by_cases h1 : n < 1
  · go_enter Try.func47, Try.ntmps47
    go_wp2_with fail
    go_ret
    exact ⟨by rw [chunksN, if_pos (.inl h1)]; rfl, rfl⟩
  · by_cases h2 : size < 1
    · go_enter Try.func47, Try.ntmps47
      go_wp2_with fail
      go_ret
      exact ⟨by rw [chunksN, if_pos (.inr h2)]; rfl, rfl⟩
    · have h3 : (n - 1).tdiv size = (n - 1) / size := Int.tdiv_eq_ediv_of_nonneg (by omega)
      have h4 : 0 ≤ (n - 1) / size := Int.ediv_nonneg (by omega) (by omega)
      have h5 : (n - 1) / size ≤ n - 1 := Int.ediv_le_self _ (by omega)
      have hn0 : (size == 0) = false := beq_eq_false_iff_ne.2 (by omega)
      have hfin : chunksN n size = (n - 1) / size + 1 := by rw [chunksN, if_neg (by omega)]
      have HF := Aside0.mk hfin
      clear hfin
      go_enter Try.func47, Try.ntmps47
      go_wp2_with fail
      go_ret
      exact ⟨by rw [HF.out]; first | rfl | (rw [h3]; rfl), rfl⟩

set_option maxHeartbeats 800000 in
theorem sizeC (chunk attempt : Int) (w : World) (h0 : 0 ≤ chunk) (h1 : chunk ≤ 1000000) :
    Calls Try.prog 45 #[.int .i64 chunk, .int .i64 attempt] w fun e w' => e = .returned (.int .i64 (sizeN chunk attempt)) ∧ w' = w := by
  have hr1 := Int.tmod_lt_of_pos attempt (show (0:Int) < 2 by omega)
  have hr2 := Int.lt_tmod_of_pos attempt (show (0:Int) < 2 by omega)
  obtain ⟨t, ht⟩ : ∃ t, t = attempt.tmod 2 := ⟨_, rfl⟩
  rw [← ht] at hr1 hr2
  have h8 := ht.symm
  have HT := Aside0.mk ht
  clear ht
  by_cases h2 : t = 0
  · have hb : (t == 0) = true := beq_iff_eq.2 h2
    have hb2 : (t != 0) = false := by rw [h2]; rfl
    clear hr1 hr2
    go_enter Try.func45, Try.ntmps45
    go_wp2_with fail
    go_ret
    exact ⟨by rw [sizeN, if_pos (by rw [← HT.out]; exact h2)]; rfl, rfl⟩
  · have hb : (t == 0) = false := beq_eq_false_iff_ne.2 h2
    have hb2 : (t != 0) = true := bne_iff_ne.2 h2
    clear hr1 hr2
    go_enter Try.func45, Try.ntmps45
    go_wp2_with fail
    go_ret
    exact ⟨by rw [sizeN, if_neg (by rw [← HT.out]; exact h2)]; rfl, rfl⟩

set_option maxHeartbeats 800000 in
theorem refChunks (n size : Int) (w : World) (hn : n ≤ 9223372036854775807) :
    Calls Try.prog 48 #[.int .i64 n, .int .i64 size] w fun e w' => e = .returned (.int .i64 (chunksN n size)) ∧ w' = w := by
  by_cases h1 : n < 1
  · go_enter Try.func48, Try.ntmps48
    go_wp2_with fail
    go_ret
    exact ⟨by rw [chunksN, if_pos (.inl h1)]; rfl, rfl⟩
  · by_cases h2 : size < 1
    · go_enter Try.func48, Try.ntmps48
      go_wp2_with fail
      go_ret
      exact ⟨by rw [chunksN, if_pos (.inr h2)]; rfl, rfl⟩
    · have h3 : (n - 1).tdiv size = (n - 1) / size := Int.tdiv_eq_ediv_of_nonneg (by omega)
      have h4 : 0 ≤ (n - 1) / size := Int.ediv_nonneg (by omega) (by omega)
      have h5 : (n - 1) / size ≤ n - 1 := Int.ediv_le_self _ (by omega)
      have hn0 : (size == 0) = false := beq_eq_false_iff_ne.2 (by omega)
      have hfin : chunksN n size = (n - 1) / size + 1 := by rw [chunksN, if_neg (by omega)]
      have HF := Aside0.mk hfin
      clear hfin
      go_enter Try.func48, Try.ntmps48
      go_wp2_with fail
      go_ret
      exact ⟨by rw [HF.out]; first | rfl | (rw [h3]; rfl), rfl⟩

set_option maxHeartbeats 800000 in
theorem refSize (chunk attempt : Int) (w : World) (h0 : 0 ≤ chunk) (h1 : chunk ≤ 1000000) :
    Calls Try.prog 46 #[.int .i64 chunk, .int .i64 attempt] w fun e w' => e = .returned (.int .i64 (sizeN chunk attempt)) ∧ w' = w := by
  have hr1 := Int.tmod_lt_of_pos attempt (show (0:Int) < 2 by omega)
  have hr2 := Int.lt_tmod_of_pos attempt (show (0:Int) < 2 by omega)
  obtain ⟨t, ht⟩ : ∃ t, t = attempt.tmod 2 := ⟨_, rfl⟩
  rw [← ht] at hr1 hr2
  have h8 := ht.symm
  have HT := Aside0.mk ht
  clear ht
  by_cases h2 : t = 0
  · have hb : (t == 0) = true := beq_iff_eq.2 h2
    have hb2 : (t != 0) = false := by rw [h2]; rfl
    clear hr1 hr2
    go_enter Try.func46, Try.ntmps46
    go_wp2_with fail
    go_ret
    exact ⟨by rw [sizeN, if_pos (by rw [← HT.out]; exact h2)]; rfl, rfl⟩
  · have hb : (t == 0) = false := beq_eq_false_iff_ne.2 h2
    have hb2 : (t != 0) = true := bne_iff_ne.2 h2
    clear hr1 hr2
    go_enter Try.func46, Try.ntmps46
    go_wp2_with fail
    go_ret
    exact ⟨by rw [sizeN, if_neg (by rw [← HT.out]; exact h2)]; rfl, rfl⟩

theorem own_empty {α : Type} {d : Kd α} {e : TypeId} {w : World} : Own d e (w.alloc (.cells #[] e)) w.heap.size (.slice (some ⟨w.heap.size, 0, none⟩) 0 0) [] :=
  ⟨fun _ _ => trivial, [], ⟨by simp, .inr ⟨w.heap.size, 0, #[], rfl, Nat.le_refl _, alloc_at w _, Nat.le_refl _, by unfold maxLen; omega, by simp, by simp⟩⟩, Reps.none _ _⟩

set_option maxHeartbeats 800000 in
theorem clone (A0 : Option Addr) (c0 : Nat) (l0 : List PairD) (w : World) (hr0 : Kd.C kPair w A0 l0.length l0) (hl : l0.length ≤ 100000000) :
    Calls Try.prog 50 #[.slice A0 l0.length c0] w fun e w' => ∃ v, e = .returned v ∧ Own kPair 37 w' w.heap.size v l0 ∧ Below w.heap.size w w' := by
  have HR0 := Aside0.mk hr0
  have heq : ∀ w A n c, (binOp .eql 22 (.slice A n c) (.slice none 0 0)).run Try.prog w = .ok (.bool A.isNone) w := fun w A n c => Lib.run_eql_slice_nil w 22 37 A n c 0 0 Try.underlying22
  cases A0 with
  | none =>
    have h0 : l0 = [] := by
      rcases Nat.eq_zero_or_pos l0.length with h | h
      · exact List.eq_nil_of_length_eq_zero h
      · obtain ⟨ad, e, _⟩ := hr0.2.2 h
        cases e
    subst h0
    go_enter Try.func50, Try.ntmps50
    go_wp2_with fail
    go_ret
    exact ⟨_, rfl, Own.nil _ _ _ _, Below.refl _ _⟩
  | some ad =>
    clear hr0
    have hba : Below w.heap.size w (w.alloc (.cells #[] 37)) := (Below.refl _ _).alloc (Nat.le_refl _) _
    go_enter Try.func50, Try.ntmps50
    go_wp2_with (at_builtin; refine wpList_append_runs rfl _ _ _ _ rfl _ _ rfl rfl (append_own_runs Try.prog flat_pair 22 _ _ 32 Try.underlying22 info_pair rfl (by decide) (own_empty (d := kPair) (e := 37) (w := w)) (some ad) l0.length c0 rfl (Kd.C_below HR0.out hba) hba.size (by simp; omega) (by simp; omega)) ?_; rintro v2 w2 ⟨hv2, hg2⟩; have HV2 := Aside0.mk hv2; have HG2 := Aside0.mk hg2; clear hv2 hg2)
    go_ret
    exact ⟨_, rfl, HV2.out, hba.grown HG2.out hba.size (fun k hk => by cases hk; exact Nat.le_refl _)⟩
end Go.Proofs.Ytocooepdibgelaa.K
