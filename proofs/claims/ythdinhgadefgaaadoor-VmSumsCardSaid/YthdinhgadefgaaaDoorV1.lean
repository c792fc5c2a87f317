/- Numbers' digits: read again. Plain Lean. -/
import Derived.Test.YthdinhgadefgaaaDoorU
import Derived.Lib.ItoaNum
import Derived.Lib.ItoaMem
import Derived.Lib.ItoaLen
import Derived.Lib.ParseIntB
import Derived.Lib.ParseIntBCases
import Derived.Lib.ParseIntBTie
set_option linter.unusedVariables false
set_option linter.unusedSimpArgs false
namespace Go.Proofs.YthdinhgadefgaaaDoor.V
open Go.Lib

def IsDig (c : UInt8) : Prop := 48 ≤ c.toNat ∧ c.toNat ≤ 57
def foldD (acc : Nat) (l : List UInt8) : Nat := l.foldl (fun a c => a * 10 + (c.toNat - 48)) acc
theorem foldD_append (acc : Nat) (a b : List UInt8) : foldD acc (a ++ b) = foldD (foldD acc a) b := List.foldl_append ..
theorem foldD_le (l : List UInt8) : ∀ acc, acc ≤ foldD acc l := by
  induction l with
  | nil => intro acc; exact Nat.le_refl _
  | cons c r ih =>
    intro acc
    exact Nat.le_trans (by omega) (ih (acc * 10 + (c.toNat - 48)))
theorem dig_toNat (u : Nat) (h : u < 10) : (UInt8.ofNat (48 + u)).toNat = 48 + u := by
  rw [UInt8.toNat_ofNat']
  omega
theorem decDigits_dig (u : Nat) : ∀ c ∈ decDigits u, IsDig c := by
  induction u using Nat.strongRecOn with
  | _ u ih =>
    intro c hc
    rw [decDigits] at hc
    split at hc
    · rename_i h
      rw [List.mem_singleton] at hc
      subst hc
      unfold IsDig
      rw [dig_toNat u h]
      omega
    · rcases List.mem_append.1 hc with hc | hc
      · exact ih (u / 10) (by omega) c hc
      · rw [List.mem_singleton] at hc
        subst hc
        unfold IsDig
        rw [dig_toNat _ (by omega)]
        omega
theorem foldD_dec (u : Nat) : foldD 0 (decDigits u) = u := by
  induction u using Nat.strongRecOn with
  | _ u ih =>
    rw [decDigits]
    split
    · rename_i h
      simp only [foldD, List.foldl_cons, List.foldl_nil, dig_toNat u h]
      omega
    · rw [foldD_append, ih (u / 10) (by omega)]
      simp only [foldD, List.foldl_cons, List.foldl_nil, dig_toNat (u % 10) (by omega)]
      omega
theorem decDigits_ne (u : Nat) : decDigits u ≠ [] := by
  intro h
  have := decDigits_length u
  rw [h] at this
  have := nDigits_pos u
  simp at *
  omega
theorem parseUintM_dig (M : Nat) (hM : M ≤ 18446744073709551615) (l : List UInt8) : ∀ acc, (∀ c ∈ l, IsDig c) → foldD acc l ≤ M → parseUintM M acc l = .ok (foldD acc l) := by
  induction l with
  | nil => intro acc _ _; rfl
  | cons c r ih =>
    intro acc hd hle
    have hc := hd c (List.mem_cons_self ..)
    unfold IsDig at hc
    have h1 : acc * 10 + (c.toNat - 48) ≤ foldD (acc * 10 + (c.toNat - 48)) r := foldD_le r _
    have h2 : foldD acc (c :: r) = foldD (acc * 10 + (c.toNat - 48)) r := rfl
    unfold parseUintM
    rw [if_pos hc, if_neg (by omega), if_neg (by omega), h2]
    exact ih _ (fun x hx => hd x (List.mem_cons_of_mem _ hx)) (by omega)
theorem parseUintB_dec (u : Nat) (h : u ≤ 18446744073709551615) : parseUintB 64 (decDigits u) = .ok u := by
  unfold parseUintB
  rw [if_neg (decDigits_ne u), parseUintM_dig _ (by decide) _ 0 (decDigits_dig u) (by rw [foldD_dec]; omega), foldD_dec]
theorem itoa_cases (n : Int) : (∃ u : Nat, n = u ∧ itoa n = decDigits u) ∨ ∃ u : Nat, 1 ≤ u ∧ n = -(u : Int) ∧ itoa n = 45 :: decDigits u := by
  by_cases h : n < 0
  · obtain ⟨u, rfl⟩ : ∃ u : Nat, n = -(u : Int) := ⟨n.natAbs, by omega⟩
    exact .inr ⟨u, by omega, rfl, itoa_neg u (by omega)⟩
  · obtain ⟨u, rfl⟩ : ∃ u : Nat, n = u := ⟨n.toNat, by omega⟩
    exact .inl ⟨u, rfl, itoa_nonneg u⟩
theorem parse_itoa (n : Int) (h0 : -9223372036854775808 ≤ n) (h1 : n ≤ 9223372036854775807) : parseIntB 64 (itoa n) = .ok n := by
  rcases itoa_cases n with ⟨u, rfl, e⟩ | ⟨u, hu, rfl, e⟩
  · rw [e]
    have hne := decDigits_ne u
    have hp := parseUintB_dec u (by omega)
    have hdg := decDigits_dig u
    cases hd : decDigits u with
    | nil => exact absurd hd hne
    | cons c r =>
      rw [hd] at hp hdg
      have hc := hdg c (List.mem_cons_self ..)
      unfold IsDig at hc
      rw [parseIntB_plain _ _ _ (by omega) (by omega), hp]
      simp only [signlessC]
      rw [if_neg (by simp; omega)]
  · rw [e, parseIntB_minus, parseUintB_dec u (by omega)]
    simp only [signedC]
    rw [if_neg (by simp; omega)]
theorem itoa_inj {a b : Int} (ha0 : -9223372036854775808 ≤ a) (ha1 : a ≤ 9223372036854775807) (hb0 : -9223372036854775808 ≤ b) (hb1 : b ≤ 9223372036854775807) (h : itoa a = itoa b) : a = b := by
  have e := parse_itoa a ha0 ha1
  rw [h, parse_itoa b hb0 hb1] at e
  injection e with e
  exact e.symm
/-- A number within 64 bits. -/
def In64 (n : Int) : Prop := -9223372036854775808 ≤ n ∧ n ≤ 9223372036854775807
/-- The number whose digits these are. -/
def numL (l : List UInt8) : Int := match parseIntB 64 l with | .ok v => if itoa v = l then v else 0 | _ => 0
theorem numL_itoa {n : Int} (h : In64 n) : numL (itoa n) = n := by simp [numL, parse_itoa n h.1 h.2]
theorem parseIntB_in {l : List UInt8} {v : Int} (h : parseIntB 64 l = .ok v) : In64 v := by
  have := parseIntB_bounds h
  unfold In64
  simp at this
  omega
theorem numL_none {l : List UInt8} (h : ∀ n, In64 n → itoa n ≠ l) : numL l = 0 := by
  unfold numL
  cases hp : parseIntB 64 l with
  | ok v =>
    simp only
    rw [if_neg (h v (parseIntB_in hp))]
  | range => rfl
  | _ => rfl
theorem numL_in (l : List UInt8) : In64 (numL l) := by
  unfold numL
  cases hp : parseIntB 64 l with
  | ok v =>
    simp only
    split
    · exact parseIntB_in hp
    · unfold In64; omega
  | range => simp only; unfold In64; omega
  | _ => simp only; unfold In64; omega
/-- What is no number's digits. -/
theorem not_zero_ahead (n m : Int) : itoa m ≠ 48 :: itoa n := by
  intro h
  rcases itoa_cases m with ⟨u, rfl, e⟩ | ⟨u, _, rfl, e⟩
  · rw [e] at h
    rcases itoa_cases n with ⟨v, rfl, e2⟩ | ⟨v, _, rfl, e2⟩
    · rw [e2] at h
      have h1 := congrArg (foldD 0) h
      rw [foldD_dec] at h1
      have h2 : foldD 0 (48 :: decDigits v) = v := foldD_dec v
      rw [h2] at h1
      subst h1
      have := congrArg List.length h
      simp at this
    · rw [e2] at h
      have := decDigits_dig u 45 (by rw [h]; simp)
      revert this
      unfold IsDig
      decide
  · rw [e] at h
    injection h with h _
    revert h
    decide
theorem not_plus_ahead (l : List UInt8) (m : Int) : itoa m ≠ 43 :: l := by
  intro h
  rcases itoa_cases m with ⟨u, rfl, e⟩ | ⟨u, _, rfl, e⟩
  · rw [e] at h
    have := decDigits_dig u 43 (by rw [h]; simp)
    revert this
    unfold IsDig
    decide
  · rw [e] at h
    injection h with h _
    revert h
    decide
theorem not_blank_behind (l : List UInt8) (m : Int) : itoa m ≠ l ++ [32] := by
  intro h
  have hm : (32 : UInt8) ∈ itoa m := by rw [h]; simp
  rcases itoa_cases m with ⟨u, rfl, e⟩ | ⟨u, _, rfl, e⟩
  · rw [e] at hm
    have := decDigits_dig u 32 hm
    revert this
    unfold IsDig
    decide
  · rw [e] at hm
    rcases List.mem_cons.1 hm with hm | hm
    · revert hm; decide
    · have := decDigits_dig u 32 hm
      revert this
      unfold IsDig
      decide
/-- What a minus ahead of digits tells. -/
def minusL (n : Int) : Int := if 0 < n then -n else 0
theorem numL_minus {n : Int} (h : In64 n) : numL (45 :: itoa n) = minusL n := by
  unfold minusL
  split
  · rename_i hn
    have e : 45 :: itoa n = itoa (-n) := by
      rcases itoa_cases n with ⟨u, rfl, e⟩ | ⟨u, _, rfl, e⟩
      · rw [e, itoa_neg u (by omega)]
      · omega
    rw [e, numL_itoa ⟨by have := h.2; omega, by omega⟩]
  · rename_i hn
    refine numL_none fun m hm e => ?_
    rcases itoa_cases m with ⟨u, rfl, e1⟩ | ⟨u, hu, rfl, e1⟩
    · rw [e1] at e
      have := decDigits_dig u 45 (by rw [e]; simp)
      revert this
      unfold IsDig
      decide
    · rw [e1] at e
      injection e with _ e
      rcases itoa_cases n with ⟨v, rfl, e2⟩ | ⟨v, _, rfl, e2⟩
      · rw [e2] at e
        have h1 := congrArg (foldD 0) e
        rw [foldD_dec, foldD_dec] at h1
        omega
      · rw [e2] at e
        have := decDigits_dig u 45 (by rw [e]; simp)
        revert this
        unfold IsDig
        decide
end Go.Proofs.YthdinhgadefgaaaDoor.V
