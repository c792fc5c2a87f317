/- The document's way to read a number's digits. Plain Lean. -/
import Derived.Test.YthdinhgadefgaaaDoorV1
set_option linter.unusedVariables false
set_option linter.unusedSimpArgs false
namespace Go.Proofs.YthdinhgadefgaaaDoor.V
open Go.Lib Go.RowKit

/-- One byte more, as 64 bits go round. -/
def accW (a : Int) (c : UInt8) : Int := if 48 ≤ c.toNat ∧ c.toNat ≤ 57 then wrap64 (wrap64 (a * 10) + ((c.toNat : Int) - 48)) else a
def accZ (a : Int) (c : UInt8) : Int := if 48 ≤ c.toNat ∧ c.toNat ≤ 57 then a * 10 + ((c.toNat : Int) - 48) else a
def foldW (l : List UInt8) : Int := l.foldl accW 0
theorem accW_wrap (x : Int) (c : UInt8) : accW (wrap64 x) c = wrap64 (accZ x c) := by
  unfold accW accZ
  split
  · unfold wrap64; omega
  · rfl
theorem foldW_wrap (l : List UInt8) : ∀ x, l.foldl accW (wrap64 x) = wrap64 (l.foldl accZ x) := by
  induction l with
  | nil => intro x; rfl
  | cons c l ih =>
    intro x
    rw [List.foldl_cons, List.foldl_cons, accW_wrap, ih]
theorem wrap64_zero : wrap64 0 = 0 := by unfold wrap64; decide
theorem foldW_eq (l : List UInt8) : foldW l = wrap64 (l.foldl accZ 0) := by
  have := foldW_wrap l 0
  rwa [wrap64_zero] at this
theorem wrap64_in64 (x : Int) : In64 (wrap64 x) := by unfold In64 wrap64; omega
theorem foldW_in (l : List UInt8) : In64 (foldW l) := by rw [foldW_eq]; exact wrap64_in64 _
theorem foldZ_dig (l : List UInt8) : ∀ a : Nat, (∀ c ∈ l, IsDig c) → l.foldl accZ (a : Int) = (foldD a l : Nat) := by
  induction l with
  | nil => intro a _; rfl
  | cons c l ih =>
    intro a h
    have hc := h c (List.mem_cons_self ..)
    have e : accZ (a : Int) c = ((a * 10 + (c.toNat - 48) : Nat) : Int) := by
      unfold accZ
      unfold IsDig at hc
      rw [if_pos hc]
      omega
    rw [List.foldl_cons, e, ih _ (fun x hx => h x (List.mem_cons_of_mem _ hx))]
    rfl
theorem foldW_itoa (n : Int) (h : In64 n) : foldW (itoa n) = wrap64 n.natAbs := by
  rw [foldW_eq]
  rcases itoa_cases n with ⟨u, rfl, e⟩ | ⟨u, hu, rfl, e⟩
  · rw [e]
    have := foldZ_dig (decDigits u) 0 (decDigits_dig u)
    rw [foldD_dec] at this
    have e2 : (decDigits u).foldl accZ 0 = (u : Int) := this
    rw [e2]
    simp
  · rw [e, List.foldl_cons]
    have e1 : accZ 0 45 = 0 := by decide
    rw [e1]
    have := foldZ_dig (decDigits u) 0 (decDigits_dig u)
    rw [foldD_dec] at this
    have e2 : (decDigits u).foldl accZ 0 = (u : Int) := this
    rw [e2]
    simp
theorem nDigits_le (k : Nat) : ∀ u, u < 10 ^ (k + 1) → nDigits u ≤ k + 1 := by
  induction k with
  | zero => intro u h; rw [nDigits, dif_pos (by omega)]; exact Nat.le_refl _
  | succ k ih =>
    intro u h
    rw [nDigits]
    split
    · omega
    · have := ih (u / 10) (by rw [Nat.div_lt_iff_lt_mul (by omega)]; rw [Nat.pow_succ] at h; exact h)
      omega
theorem itoa_len {n : Int} (h : In64 n) : (itoa n).length ≤ 20 := by
  have hu : ∀ u : Nat, u ≤ 9223372036854775808 → (decDigits u).length ≤ 19 := fun u hu => by
    rw [decDigits_length]
    exact nDigits_le 18 u (by omega)
  rcases itoa_cases n with ⟨u, rfl, e⟩ | ⟨u, _, rfl, e⟩
  · rw [e]; have := hu u (by have := h.2; omega); omega
  · rw [e, List.length_cons]; have := hu u (by have := h.1; omega); omega
/-- What is read ahead of the comparison. -/
def preN (l : List UInt8) : Int := if l.length ≤ 20 then foldW l else 0
def numW (l : List UInt8) : Int := if itoa (preN l) = l then preN l else if itoa (wrap64 (-preN l)) = l then wrap64 (-preN l) else 0
theorem preN_in (l : List UInt8) : In64 (preN l) := by
  unfold preN
  split
  · exact foldW_in l
  · unfold In64; omega
theorem numW_eq (l : List UInt8) : numW l = numL l := by
  by_cases hx : ∃ n, In64 n ∧ itoa n = l
  · obtain ⟨n, hn, rfl⟩ := hx
    rw [numL_itoa hn]
    have hp : preN (itoa n) = wrap64 n.natAbs := by unfold preN; rw [if_pos (itoa_len hn), foldW_itoa n hn]
    unfold numW
    rw [hp]
    by_cases h0 : 0 ≤ n
    · have e : wrap64 (n.natAbs : Int) = n := by have := hn.2; unfold wrap64; omega
      rw [e, if_pos rfl]
    · by_cases hm : n = -9223372036854775808
      · subst hm
        have e : wrap64 ((-9223372036854775808 : Int).natAbs : Int) = -9223372036854775808 := by unfold wrap64; omega
        rw [e, if_pos rfl]
      · have h1 := hn.1
        have e : wrap64 (n.natAbs : Int) = -n := by unfold wrap64; omega
        rw [e]
        have hne : itoa (-n) ≠ itoa n := fun e2 => by
          have := itoa_inj (by omega) (by omega) hn.1 hn.2 e2
          omega
        have e3 : wrap64 (- -n) = n := by unfold wrap64; omega
        rw [if_neg hne, e3, if_pos rfl]
  · have hno : ∀ n, In64 n → itoa n ≠ l := fun n hn e => hx ⟨n, hn, e⟩
    rw [numL_none hno]
    unfold numW
    rw [if_neg (hno _ (preN_in l)), if_neg (hno _ (wrap64_in64 _))]
end Go.Proofs.YthdinhgadefgaaaDoor.V
