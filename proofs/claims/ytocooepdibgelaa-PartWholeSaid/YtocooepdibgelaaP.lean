/- A key's number and its part. -/
import Derived.Test.YtocooepdibgelaaKL
import Derived.Deep.LoopGhost
import Derived.Deep.QuietTactic
import Derived.BigQuiet
set_option linter.unusedVariables false
set_option linter.unusedSimpArgs false
namespace Go.Proofs.Ytocooepdibgelaa.K
open Go.RowKit Go.Proofs.YtocooepdibgelaaW.PrintWords Go.Proofs.YtocooepdibgelaaW.PrintLast Go.Proofs.YtocooepdibgelaaW.PrintMore Go.Proofs.Ytocooepdibgelaa.U Go.Proofs.Ytocooepdibgelaa.T

/-- A byte more of a key. -/
def stepK (h x : Int) : Int := (31 * h + x) % 4294967296
def numL (l : List Int) : Int := l.foldl stepK 7
def numK (s : ByteArray) : Int := numL (bytesOf s)
theorem u32_wrap (n : Int) : IntKind.u32.wrap n = n % 4294967296 := by simp [IntKind.wrap, IntKind.bits, IntKind.signed]
theorem take_bytes_succ (s : ByteArray) (k : Nat) (h : k < s.size) : (bytesOf s).take (k + 1) = (bytesOf s).take k ++ [(s[k].toNat : Int)] := by
  have hl : k < (bytesOf s).length := by rw [bytesOf_length]; exact h
  rw [List.take_succ_eq_append_getElem hl]
  simp [bytesOf]
  rfl
set_option maxHeartbeats 800000 in
theorem number (s : ByteArray) (w : World) (hs : s.size ≤ 9223372036854775807) :
    Calls Try.prog 19 #[.string s] w fun e w' => e = .returned (.int .u32 (numK s)) ∧ Below w.heap.size w w' := by
  go_enter Try.func19, Try.ntmps19
  go_wp2_with fail
  go_loopg [3, 4, 7] s.size (fun kq v3 v4 v7 w' => ∃ (k : Nat) (h : Int), k + kq = s.size ∧ v7 = .int .i64 k  ∧ v3 = .int .u32 h ∧ Aside0 (h = numL ((bytesOf s).take k)) ∧ Drawn0 w w')
  case atStart => exact ⟨0, 7, by omega, rfl, rfl, ⟨rfl⟩, Drawn0.refl _⟩
  case round =>
    obtain ⟨k, h, hk, rfl, rfl, HT, ⟨m1, rfl⟩⟩ := hrel
    by_cases hlt : k < s.size
    · go_wp2_with fail
      go_roundg (s.size - (k + 1))
      case measure => omega
      case rel => exact ⟨k + 1, _, by omega, by go_num, rfl, ⟨by rw [take_bytes_succ s k hlt, numL, List.foldl_append, ← numL, ← HT.out]; show _ = (31 * h + (s[k].toNat : Int)) % 4294967296; omega⟩, by repeat (first | exact Drawn0.refl _ | apply Drawn0.step)⟩
    · obtain rfl : k = s.size := by omega
      go_wp2_with fail
      go_ret
      refine ⟨?_, (Drawn0.step (Drawn0.refl w) m1).below⟩
      rw [numK, ← List.take_of_length_le (l := bytesOf s) (i := s.size) (by rw [bytesOf_length]; omega), ← HT.out]
      rfl
set_option maxHeartbeats 800000 in
theorem refNumber (s : ByteArray) (w : World) (hs : s.size ≤ 9223372036854775807) :
    Calls Try.prog 20 #[.string s] w fun e w' => e = .returned (.int .u32 (numK s)) ∧ Below w.heap.size w w' := by
  go_enter Try.func20, Try.ntmps20
  go_wp2_with fail
  go_loopg [3, 4] s.size (fun kq v3 v7 w' => ∃ (k : Nat) (h : Int), k + kq = s.size ∧ v7 = .int .i64 k  ∧ v3 = .int .u32 h ∧ Aside0 (h = numL ((bytesOf s).take k)) ∧ Drawn0 w w')
  case atStart => exact ⟨0, 7, by omega, rfl, rfl, ⟨rfl⟩, Drawn0.refl _⟩
  case round =>
    obtain ⟨k, h, hk, rfl, rfl, HT, ⟨m1, rfl⟩⟩ := hrel
    by_cases hlt : k < s.size
    · go_wp2_with fail
      go_roundg (s.size - (k + 1))
      case measure => omega
      case rel => exact ⟨k + 1, _, by omega, by go_num, rfl, ⟨by rw [take_bytes_succ s k hlt, numL, List.foldl_append, ← numL, ← HT.out]; show _ = (31 * h + (s[k].toNat : Int)) % 4294967296; omega⟩, by repeat (first | exact Drawn0.refl _ | apply Drawn0.step)⟩
    · obtain rfl : k = s.size := by omega
      go_wp2_with fail
      go_ret
      refine ⟨?_, (Drawn0.step (Drawn0.refl w) m1).below⟩
      rw [numK, ← List.take_of_length_le (l := bytesOf s) (i := s.size) (by rw [bytesOf_length]; omega), ← HT.out]
      rfl

def partN (s : ByteArray) (parts : Int) : Int := if parts < 1 then -1 else numK s % parts
theorem numL_range (l : List Int) : 0 ≤ numL l ∧ numL l < 4294967296 := by
  unfold numL
  suffices h : ∀ (l : List Int) (a : Int), 0 ≤ a ∧ a < 4294967296 → 0 ≤ l.foldl stepK a ∧ l.foldl stepK a < 4294967296 from h l 7 (by omega)
  intro l
  induction l with
  | nil => intro a h; exact h
  | cons x l ih => intro a _; rw [List.foldl_cons]; exact ih _ (by unfold stepK; omega)
theorem partN_eq (s : ByteArray) (parts : Int) (h1 : ¬ parts < 1) (h2 : parts ≤ 9223372036854775807) : wrap64 (numK s % parts) = partN s parts := by
  have hr := numL_range (bytesOf s)
  have e0 : numK s = numL (bytesOf s) := rfl
  rw [partN, if_neg h1, e0]
  have h3 := Int.emod_nonneg (numL (bytesOf s)) (show parts ≠ 0 from by omega)
  have h4 := Int.emod_lt_of_pos (numL (bytesOf s)) (show 0 < parts from by omega)
  unfold wrap64
  omega

set_option maxHeartbeats 800000 in
theorem of_ (s : ByteArray) (parts : Int) (w : World) (hs : s.size ≤ 9223372036854775807) (hp : parts ≤ 9223372036854775807) :
    Calls Try.prog 21 #[.string s, .int .i64 parts] w fun e w' => e = .returned (.int .i64 (partN s parts)) ∧ Below w.heap.size w w' := by
  by_cases h1 : parts < 1
  · go_enter Try.func21, Try.ntmps21
    go_wp2_with fail
    go_ret
    exact ⟨by rw [partN, if_pos h1]; rfl, Below.refl _ _⟩
  · have HE := Aside0.mk (partN_eq s parts h1 hp)
    have hn0 : (parts == 0) = false := beq_eq_false_iff_ne.2 (by omega)
    go_enter Try.func21, Try.ntmps21
    go_wp2_with fail
    refine (number s w hs).mono ?_
    rintro e w1 ⟨rfl, hb1⟩
    have HB1 := Aside0.mk hb1
    clear hb1
    obtain ⟨n, hn⟩ : ∃ n, n = numK s := ⟨_, rfl⟩
    have hr : 0 ≤ n ∧ n < 4294967296 := by rw [hn]; exact numL_range _
    obtain ⟨hr0, hr1⟩ := hr
    rw [← hn] at HE ⊢
    clear hn
    go_wp2_with fail
    go_ret
    exact ⟨by rw [← HE.out]; rfl, HB1.out⟩
set_option maxHeartbeats 800000 in
theorem refOf (s : ByteArray) (parts : Int) (w : World) (hs : s.size ≤ 9223372036854775807) (hp : parts ≤ 9223372036854775807) :
    Calls Try.prog 22 #[.string s, .int .i64 parts] w fun e w' => e = .returned (.int .i64 (partN s parts)) ∧ Below w.heap.size w w' := by
  by_cases h1 : parts < 1
  · go_enter Try.func22, Try.ntmps22
    go_wp2_with fail
    go_ret
    exact ⟨by rw [partN, if_pos h1]; rfl, Below.refl _ _⟩
  · have HE := Aside0.mk (partN_eq s parts h1 hp)
    have hn0 : (parts == 0) = false := beq_eq_false_iff_ne.2 (by omega)
    go_enter Try.func22, Try.ntmps22
    go_wp2_with fail
    refine (refNumber s w hs).mono ?_
    rintro e w1 ⟨rfl, hb1⟩
    have HB1 := Aside0.mk hb1
    clear hb1
    obtain ⟨n, hn⟩ : ∃ n, n = numK s := ⟨_, rfl⟩
    have hr : 0 ≤ n ∧ n < 4294967296 := by rw [hn]; exact numL_range _
    obtain ⟨hr0, hr1⟩ := hr
    rw [← hn] at HE ⊢
    clear hn
    go_wp2_with fail
    go_ret
    exact ⟨by rw [← HE.out]; rfl, HB1.out⟩
end Go.Proofs.Ytocooepdibgelaa.K
