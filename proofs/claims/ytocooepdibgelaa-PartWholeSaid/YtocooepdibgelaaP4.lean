/- The plain law of PartWhole: all parts together have all pairs. -/
import Derived.Test.YtocooepdibgelaaP3
set_option linter.unusedVariables false
set_option linter.unusedSimpArgs false
namespace Go.Proofs.Ytocooepdibgelaa.K
open Go.RowKit Go.Proofs.YtocooepdibgelaaW.PrintWords Go.Proofs.YtocooepdibgelaaW.PrintLast Go.Proofs.YtocooepdibgelaaW.PrintMore Go.Proofs.Ytocooepdibgelaa.U Go.Proofs.Ytocooepdibgelaa.T

theorem partN_range (s : ByteArray) (parts : Int) (h : 1 ≤ parts) : 0 ≤ partN s parts ∧ partN s parts < parts := by
  unfold partN
  rw [if_neg (by omega)]
  exact ⟨Int.emod_nonneg _ (by omega), Int.emod_lt_of_pos _ (by omega)⟩
/-- How many pairs the first k parts have. -/
def partsSum (l : List PairD) (parts : Int) : Nat → Nat
  | 0 => 0
  | k + 1 => partsSum l parts k + (onlyL l parts k).length
theorem partsSum_eq (l : List PairD) (parts : Int) (h : 1 ≤ parts) (k : Nat) : partsSum l parts k = (l.filter (fun x => decide (partN x.key parts < k))).length := by
  induction k with
  | zero =>
    rw [partsSum, List.filter_eq_nil_iff.2 fun x _ => by have := (partN_range x.key parts h).1; simp; omega]
    rfl
  | succ k ih =>
    rw [partsSum, ih]
    clear ih
    unfold onlyL
    induction l with
    | nil => rfl
    | cons x l ih =>
      simp only [List.filter_cons]
      rcases Int.lt_trichotomy (partN x.key parts) k with h1 | h1 | h1
      · rw [if_pos (by simpa using h1), if_neg (by simp; omega), if_pos (by simp; omega), List.length_cons, List.length_cons, ← ih]
        omega
      · rw [if_neg (by simp; omega), if_pos (by simpa using h1), if_pos (by simp; omega), List.length_cons, List.length_cons, ← ih]
        omega
      · rw [if_neg (by simp; omega), if_neg (by simp; omega), if_neg (by simp; omega), ← ih]
theorem partsSum_all (l : List PairD) (parts : Int) (h : 1 ≤ parts) (k : Nat) (hk : (k : Int) = parts) : partsSum l parts k = l.length := by
  rw [partsSum_eq l parts h, List.filter_eq_self.2 fun x _ => by have := (partN_range x.key parts h).2; simp; omega]
theorem partsSum_le (l : List PairD) (parts : Int) (h : 1 ≤ parts) (k : Nat) : partsSum l parts k ≤ l.length := by
  rw [partsSum_eq l parts h]
  exact List.length_filter_le _ _
theorem onlyL_drop (l : List PairD) (i : Nat) (h : i < l.length) (parts p : Int) (hp : partN l[i].key parts = p) :
    ∃ hq : (onlyL (l.take i) parts p).length < (onlyL l parts p).length, (onlyL l parts p)[(onlyL (l.take i) parts p).length] = l[i] := by
  have e : onlyL l parts p = onlyL (l.take i) parts p ++ l[i] :: onlyL (l.drop (i + 1)) parts p := by
    unfold onlyL
    conv => lhs; rw [← List.take_append_drop i l, List.filter_append, List.drop_eq_getElem_cons h, List.filter_cons, if_pos (by simpa using hp)]
  refine ⟨by rw [e, List.length_append, List.length_cons]; omega, ?_⟩
  have : (onlyL l parts p)[(onlyL (l.take i) parts p).length]? = some l[i] := by
    rw [e, List.getElem?_append_right (Nat.le_refl _), Nat.sub_self]
    rfl
  exact (List.getElem?_eq_some_iff.1 this).2
theorem onlyL_step (l : List PairD) (i : Nat) (h : i < l.length) (parts p : Int) :
    (onlyL (l.take (i + 1)) parts p).length = (onlyL (l.take i) parts p).length + if partN l[i].key parts = p then 1 else 0 := by
  rw [onlyL_snoc l i h, List.length_append]
  by_cases hp : partN l[i].key parts = p
  · rw [if_pos (by simpa using hp), if_pos hp]; rfl
  · rw [if_neg (by simpa using hp), if_neg hp]; rfl
theorem onlyL_none (l : List PairD) (parts : Int) (h : 1 ≤ parts) : onlyL l parts parts = [] := by
  unfold onlyL
  exact List.filter_eq_nil_iff.2 fun x _ => by have := (partN_range x.key parts h).2; simp; omega
theorem onlyL_zero (l : List PairD) : onlyL l 0 0 = [] := by
  unfold onlyL
  refine List.filter_eq_nil_iff.2 fun x _ => ?_
  unfold partN
  simp
end Go.Proofs.Ytocooepdibgelaa.K
