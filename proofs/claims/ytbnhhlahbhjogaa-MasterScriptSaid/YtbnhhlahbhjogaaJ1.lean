/- Programs and pairs that may be. -/
import Derived.Test.YtbnhhlahbhjogaaKL
import Derived.Test.YtbnhhlahbhjogaaKQ
import Derived.Test.YtbnhhlahbhjogaaCh
import Derived.WalkSpells
set_option linter.unusedVariables false
set_option linter.unusedSimpArgs false
namespace Go.Proofs.Ytbnhhlahbhjogaa.T
open Go.RowKit Go.Proofs.YtbnhhlahbhjogaaW.PrintWords Go.Proofs.YtbnhhlahbhjogaaW.PrintLast Go.Proofs.YtbnhhlahbhjogaaW.PrintMore Go.Proofs.Ytbnhhlahbhjogaa.U
/-- An instruction. -/
structure InsD where
  op : Int
  a : Int
  s : ByteArray
def kIns : Kd InsD := Kd.iso (Kd.pair (Kd.int .i64) (Kd.pair (Kd.int .i64) Kd.string)) (fun x => (x.op, x.a, x.s))
def GIns (x : InsD) : Prop := (Lit.int .i64 x.op).wf = true ∧ (Lit.int .i64 x.a).wf = true ∧ x.s.size ≤ 9223372036854775807
theorem open_115 : Opens Try.prog 115 kIns GIns :=
  Opens.iso (Opens.struct Try.underlying115 (by kernel_rfl) (OpensF.cons (Opens.int Try.underlying3) rfl (by kernel_rfl) rfl (OpensF.cons (Opens.int Try.underlying3) rfl (by kernel_rfl) rfl (OpensF.one (Opens.string Try.underlying9) rfl (by kernel_rfl))))) _ (fun p => ⟨p.1, p.2.1, p.2.2⟩) (fun _ => rfl)
theorem kIns_open {w : World} {x : InsD} {cs : List Value} (h : kIns.K w x cs) : cs = [.int .i64 x.op, .int .i64 x.a, .string x.s] := by
  obtain ⟨_, _, rfl, rfl, ⟨_, _, rfl, rfl, rfl⟩⟩ := h
  rfl
end Go.Proofs.Ytbnhhlahbhjogaa.T
namespace Go.Proofs.Ytbnhhlahbhjogaa.K
open Go.RowKit Go.Proofs.YtbnhhlahbhjogaaW.PrintWords Go.Proofs.YtbnhhlahbhjogaaW.PrintLast Go.Proofs.YtbnhhlahbhjogaaW.PrintMore Go.Proofs.Ytbnhhlahbhjogaa.U Go.Proofs.Ytbnhhlahbhjogaa.T

theorem at_ins {w : World} {A : Option Addr} {n : Nat} {xs : List InsD} (h : Kd.C kIns w A n xs) (k : Nat) (hk : k < xs.length) : ∃ ad, A = some ad ∧ w.cell? (ad.add (k * 3)) = some (.int .i64 xs[k].op) ∧ w.cell? ⟨(ad.add (k * 3)).block, (ad.add (k * 3)).off + 1, none⟩ = some (.int .i64 xs[k].a) ∧ w.cell? ⟨(ad.add (k * 3)).block, (ad.add (k * 3)).off + 2, none⟩ = some (.string xs[k].s) := by
  obtain ⟨ad, c, e, hl, hK, hc⟩ := Kd.C_get h ⟨0, 0, ByteArray.empty⟩ (k : Int) (by omega) (by have := Kd.C_len h; omega)
  obtain rfl := kIns_open hK
  have e2 : xs.getD (k : Int).toNat ⟨0, 0, ByteArray.empty⟩ = xs[k] := by rw [Int.toNat_natCast]; simp [List.getD_eq_getElem?_getD, hk]
  rw [e2] at hc
  have h0 := hc 0 _ rfl
  have h1 := hc 1 _ rfl
  have h2 := hc 2 _ rfl
  rw [Int.toNat_natCast] at h0 h1 h2
  exact ⟨ad, e, h0, (by rw [← add_add'] at h1; exact h1), (by rw [← add_add'] at h2; exact h2)⟩

/-- What an instruction's A and S may be at most. -/
def mostI (x : InsD) (n : Int) : Int := if x.op = 19 ∨ x.op = 20 then n else if x.op = 21 ∨ x.op = 22 then 7 else 0
def longI (x : InsD) : Int := if x.op = 2 then 64 else 0
/-- May an instruction be, of so many? -/
def MayI (x : InsD) (n : Int) : Prop := if x.op = 1 then x.s.size = 0 else 0 ≤ x.op ∧ x.op ≤ 23 ∧ 0 ≤ x.a ∧ x.a ≤ mostI x n ∧ (x.s.size : Int) ≤ longI x
instance (x : InsD) (n : Int) : Decidable (MayI x n) := by unfold MayI; infer_instance
theorem within (n a b : Int) (w : World) : Calls Try.prog 38 #[.int .i64 n, .int .i64 a, .int .i64 b] w fun e w' => e = .returned (.bool (decide (a ≤ n ∧ n ≤ b))) ∧ w' = w := by
  by_cases h1 : a ≤ n <;> by_cases h2 : n ≤ b
  all_goals
    go_enter Try.func38, Try.ntmps38
    go_wp2_with fail
    go_ret
    refine ⟨?_, rfl⟩
    simp [h1, h2]
theorem in_ (n a b : Int) (w : World) : Calls Try.prog 77 #[.int .i64 n, .int .i64 a, .int .i64 b] w fun e w' => e = .returned (.bool (decide (a ≤ n ∧ n ≤ b))) ∧ w' = w := by
  by_cases h1 : a ≤ n <;> by_cases h2 : n ≤ b
  all_goals
    go_enter Try.func77, Try.ntmps77
    go_wp2_with fail
    go_ret
    refine ⟨?_, rfl⟩
    simp [h1, h2]
theorem ba_empty (s : ByteArray) : s = ByteArray.empty ↔ s.size = 0 := by
  constructor
  · rintro rfl; rfl
  · intro h
    exact ByteArray.ext (Array.eq_empty_of_size_eq_zero h)
theorem str_empty (s : ByteArray) : s.toList.isEmpty = decide (s.size = 0) := by
  rw [ByteArray.toList_eq]
  by_cases h : s.size = 0
  · rw [decide_eq_true h]
    have : s.data.toList = [] := List.eq_nil_of_length_eq_zero (by rw [Array.length_toList]; exact h)
    rw [this]
    rfl
  · rw [decide_eq_false h]
    have : s.data.toList ≠ [] := fun e => h (by have e2 := congrArg List.length e; rw [Array.length_toList] at e2; exact e2)
    simpa using this
set_option maxHeartbeats 1600000 in
theorem mayIns (op a : Int) (s : ByteArray) (n : Int) (r : Bool) (w : World) (hr : r = decide (MayI ⟨op, a, s⟩ n)) : Calls Try.prog 95 #[.agg #[.int .i64 op, .int .i64 a, .string s], .int .i64 n] w fun e w' => e = .returned (.bool r) ∧ Below w.heap.size w w' := by
  by_cases c1 : op = 1
  · subst c1
    have HR : Aside0 (r = true ↔ s.size = 0) := ⟨by rw [hr, decide_eq_true_iff]; unfold MayI mostI longI; dsimp only; (repeat' split) <;> omega⟩
    clear hr
    go_enter Try.func95, Try.ntmps95
    go_wp2_with fail
    all_goals
      go_ret
      refine ⟨?_, (Below.refl _ _).alloc (Nat.le_refl _) _⟩
      have hR := HR.out
      first
        | (show Ending.returned (.bool true) = _; rw [hR.2 (by omega)])
        | (show Ending.returned (.bool false) = _; rw [show r = false from Bool.eq_false_iff.2 (fun h => by have := hR.1 h; omega)])
        | (show Ending.returned (.bool s.toList.isEmpty) = _; rw [str_empty]; exact congrArg (fun b => Ending.returned (.bool b)) (Bool.eq_iff_iff.2 (by rw [decide_eq_true_iff, hR] <;> omega)))
        | (show Ending.returned (.bool (decide (s = ByteArray.empty))) = _; exact congrArg (fun b => Ending.returned (.bool b)) (Bool.eq_iff_iff.2 (by rw [decide_eq_true_iff, ba_empty, hR] <;> omega)))
        | (show Ending.returned (.bool (decide ((s.size : Int) ≤ _))) = _; exact congrArg (fun b => Ending.returned (.bool b)) (Bool.eq_iff_iff.2 (by rw [decide_eq_true_iff, hR] <;> omega)))
  · have d1 : (op == 1) = false := beq_eq_false_iff_ne.2 c1
    by_cases c2 : op = 2
    · subst c2
      clear c1 d1
      have HR : Aside0 (r = true ↔ 0 ≤ a ∧ a ≤ 0 ∧ (s.size : Int) ≤ 64) := ⟨by rw [hr, decide_eq_true_iff]; unfold MayI mostI longI; dsimp only; (repeat' split) <;> omega⟩
      clear hr
      go_enter Try.func95, Try.ntmps95
      go_wp2_with fail
      all_goals
        go_ret
        refine ⟨?_, (Below.refl _ _).alloc (Nat.le_refl _) _⟩
        have hR := HR.out
        first
          | (show Ending.returned (.bool true) = _; rw [hR.2 (by omega)])
          | (show Ending.returned (.bool false) = _; rw [show r = false from Bool.eq_false_iff.2 (fun h => by have := hR.1 h; omega)])
          | (show Ending.returned (.bool s.toList.isEmpty) = _; rw [str_empty]; exact congrArg (fun b => Ending.returned (.bool b)) (Bool.eq_iff_iff.2 (by rw [decide_eq_true_iff, hR] <;> omega)))
          | (show Ending.returned (.bool (decide (s = ByteArray.empty))) = _; exact congrArg (fun b => Ending.returned (.bool b)) (Bool.eq_iff_iff.2 (by rw [decide_eq_true_iff, ba_empty, hR] <;> omega)))
          | (show Ending.returned (.bool (decide ((s.size : Int) ≤ _))) = _; exact congrArg (fun b => Ending.returned (.bool b)) (Bool.eq_iff_iff.2 (by rw [decide_eq_true_iff, hR] <;> omega)))
    · have d2 : (op == 2) = false := beq_eq_false_iff_ne.2 c2
      by_cases c19 : op = 19
      · subst c19
        clear c1 d1 c2 d2
        have HR : Aside0 (r = true ↔ 0 ≤ a ∧ a ≤ n ∧ (s.size : Int) ≤ 0) := ⟨by rw [hr, decide_eq_true_iff]; unfold MayI mostI longI; dsimp only; (repeat' split) <;> omega⟩
        clear hr
        go_enter Try.func95, Try.ntmps95
        go_wp2_with fail
        all_goals
          go_ret
          refine ⟨?_, (Below.refl _ _).alloc (Nat.le_refl _) _⟩
          have hR := HR.out
          first
            | (show Ending.returned (.bool true) = _; rw [hR.2 (by omega)])
            | (show Ending.returned (.bool false) = _; rw [show r = false from Bool.eq_false_iff.2 (fun h => by have := hR.1 h; omega)])
            | (show Ending.returned (.bool s.toList.isEmpty) = _; rw [str_empty]; exact congrArg (fun b => Ending.returned (.bool b)) (Bool.eq_iff_iff.2 (by rw [decide_eq_true_iff, hR] <;> omega)))
            | (show Ending.returned (.bool (decide (s = ByteArray.empty))) = _; exact congrArg (fun b => Ending.returned (.bool b)) (Bool.eq_iff_iff.2 (by rw [decide_eq_true_iff, ba_empty, hR] <;> omega)))
            | (show Ending.returned (.bool (decide ((s.size : Int) ≤ _))) = _; exact congrArg (fun b => Ending.returned (.bool b)) (Bool.eq_iff_iff.2 (by rw [decide_eq_true_iff, hR] <;> omega)))
      · have d19 : (op == 19) = false := beq_eq_false_iff_ne.2 c19
        by_cases c20 : op = 20
        · subst c20
          clear c1 d1 c2 d2 c19 d19
          have HR : Aside0 (r = true ↔ 0 ≤ a ∧ a ≤ n ∧ (s.size : Int) ≤ 0) := ⟨by rw [hr, decide_eq_true_iff]; unfold MayI mostI longI; dsimp only; (repeat' split) <;> omega⟩
          clear hr
          go_enter Try.func95, Try.ntmps95
          go_wp2_with fail
          all_goals
            go_ret
            refine ⟨?_, (Below.refl _ _).alloc (Nat.le_refl _) _⟩
            have hR := HR.out
            first
              | (show Ending.returned (.bool true) = _; rw [hR.2 (by omega)])
              | (show Ending.returned (.bool false) = _; rw [show r = false from Bool.eq_false_iff.2 (fun h => by have := hR.1 h; omega)])
              | (show Ending.returned (.bool s.toList.isEmpty) = _; rw [str_empty]; exact congrArg (fun b => Ending.returned (.bool b)) (Bool.eq_iff_iff.2 (by rw [decide_eq_true_iff, hR] <;> omega)))
              | (show Ending.returned (.bool (decide (s = ByteArray.empty))) = _; exact congrArg (fun b => Ending.returned (.bool b)) (Bool.eq_iff_iff.2 (by rw [decide_eq_true_iff, ba_empty, hR] <;> omega)))
              | (show Ending.returned (.bool (decide ((s.size : Int) ≤ _))) = _; exact congrArg (fun b => Ending.returned (.bool b)) (Bool.eq_iff_iff.2 (by rw [decide_eq_true_iff, hR] <;> omega)))
        · have d20 : (op == 20) = false := beq_eq_false_iff_ne.2 c20
          by_cases c21 : op = 21
          · subst c21
            clear c1 d1 c2 d2 c19 d19 c20 d20
            have HR : Aside0 (r = true ↔ 0 ≤ a ∧ a ≤ 7 ∧ (s.size : Int) ≤ 0) := ⟨by rw [hr, decide_eq_true_iff]; unfold MayI mostI longI; dsimp only; (repeat' split) <;> omega⟩
            clear hr
            go_enter Try.func95, Try.ntmps95
            go_wp2_with fail
            all_goals
              go_ret
              refine ⟨?_, (Below.refl _ _).alloc (Nat.le_refl _) _⟩
              have hR := HR.out
              first
                | (show Ending.returned (.bool true) = _; rw [hR.2 (by omega)])
                | (show Ending.returned (.bool false) = _; rw [show r = false from Bool.eq_false_iff.2 (fun h => by have := hR.1 h; omega)])
                | (show Ending.returned (.bool s.toList.isEmpty) = _; rw [str_empty]; exact congrArg (fun b => Ending.returned (.bool b)) (Bool.eq_iff_iff.2 (by rw [decide_eq_true_iff, hR] <;> omega)))
                | (show Ending.returned (.bool (decide (s = ByteArray.empty))) = _; exact congrArg (fun b => Ending.returned (.bool b)) (Bool.eq_iff_iff.2 (by rw [decide_eq_true_iff, ba_empty, hR] <;> omega)))
                | (show Ending.returned (.bool (decide ((s.size : Int) ≤ _))) = _; exact congrArg (fun b => Ending.returned (.bool b)) (Bool.eq_iff_iff.2 (by rw [decide_eq_true_iff, hR] <;> omega)))
          · have d21 : (op == 21) = false := beq_eq_false_iff_ne.2 c21
            by_cases c22 : op = 22
            · subst c22
              clear c1 d1 c2 d2 c19 d19 c20 d20 c21 d21
              have HR : Aside0 (r = true ↔ 0 ≤ a ∧ a ≤ 7 ∧ (s.size : Int) ≤ 0) := ⟨by rw [hr, decide_eq_true_iff]; unfold MayI mostI longI; dsimp only; (repeat' split) <;> omega⟩
              clear hr
              go_enter Try.func95, Try.ntmps95
              go_wp2_with fail
              all_goals
                go_ret
                refine ⟨?_, (Below.refl _ _).alloc (Nat.le_refl _) _⟩
                have hR := HR.out
                first
                  | (show Ending.returned (.bool true) = _; rw [hR.2 (by omega)])
                  | (show Ending.returned (.bool false) = _; rw [show r = false from Bool.eq_false_iff.2 (fun h => by have := hR.1 h; omega)])
                  | (show Ending.returned (.bool s.toList.isEmpty) = _; rw [str_empty]; exact congrArg (fun b => Ending.returned (.bool b)) (Bool.eq_iff_iff.2 (by rw [decide_eq_true_iff, hR] <;> omega)))
                  | (show Ending.returned (.bool (decide (s = ByteArray.empty))) = _; exact congrArg (fun b => Ending.returned (.bool b)) (Bool.eq_iff_iff.2 (by rw [decide_eq_true_iff, ba_empty, hR] <;> omega)))
                  | (show Ending.returned (.bool (decide ((s.size : Int) ≤ _))) = _; exact congrArg (fun b => Ending.returned (.bool b)) (Bool.eq_iff_iff.2 (by rw [decide_eq_true_iff, hR] <;> omega)))
            · have d22 : (op == 22) = false := beq_eq_false_iff_ne.2 c22
              have HR : Aside0 (r = true ↔ 0 ≤ op ∧ op ≤ 23 ∧ 0 ≤ a ∧ a ≤ 0 ∧ (s.size : Int) ≤ 0) := ⟨by rw [hr, decide_eq_true_iff]; unfold MayI mostI longI; dsimp only; (repeat' split) <;> omega⟩
              clear hr
              go_enter Try.func95, Try.ntmps95
              go_wp2_with fail
              all_goals
                go_ret
                refine ⟨?_, (Below.refl _ _).alloc (Nat.le_refl _) _⟩
                have hR := HR.out
                first
                  | (show Ending.returned (.bool true) = _; rw [hR.2 (by omega)])
                  | (show Ending.returned (.bool false) = _; rw [show r = false from Bool.eq_false_iff.2 (fun h => by have := hR.1 h; omega)])
                  | (show Ending.returned (.bool s.toList.isEmpty) = _; rw [str_empty]; exact congrArg (fun b => Ending.returned (.bool b)) (Bool.eq_iff_iff.2 (by rw [decide_eq_true_iff, hR] <;> omega)))
                  | (show Ending.returned (.bool (decide (s = ByteArray.empty))) = _; exact congrArg (fun b => Ending.returned (.bool b)) (Bool.eq_iff_iff.2 (by rw [decide_eq_true_iff, ba_empty, hR] <;> omega)))
                  | (show Ending.returned (.bool (decide ((s.size : Int) ≤ _))) = _; exact congrArg (fun b => Ending.returned (.bool b)) (Bool.eq_iff_iff.2 (by rw [decide_eq_true_iff, hR] <;> omega)))
set_option maxHeartbeats 1600000 in
theorem good (op a : Int) (s : ByteArray) (n : Int) (r : Bool) (w : World) (hr : r = decide (MayI ⟨op, a, s⟩ n)) : Calls Try.prog 98 #[.agg #[.int .i64 op, .int .i64 a, .string s], .int .i64 n] w fun e w' => e = .returned (.bool r) ∧ Below w.heap.size w w' := by
  by_cases c1 : op = 1
  · subst c1
    have HR : Aside0 (r = true ↔ s.size = 0) := ⟨by rw [hr, decide_eq_true_iff]; unfold MayI mostI longI; dsimp only; (repeat' split) <;> omega⟩
    clear hr
    go_enter Try.func98, Try.ntmps98
    go_wp2_with fail
    all_goals
      go_ret
      refine ⟨?_, (Below.refl _ _).alloc (Nat.le_refl _) _⟩
      have hR := HR.out
      first
        | (show Ending.returned (.bool true) = _; rw [hR.2 (by omega)])
        | (show Ending.returned (.bool false) = _; rw [show r = false from Bool.eq_false_iff.2 (fun h => by have := hR.1 h; omega)])
        | (show Ending.returned (.bool s.toList.isEmpty) = _; rw [str_empty]; exact congrArg (fun b => Ending.returned (.bool b)) (Bool.eq_iff_iff.2 (by rw [decide_eq_true_iff, hR] <;> omega)))
        | (show Ending.returned (.bool (decide (s = ByteArray.empty))) = _; exact congrArg (fun b => Ending.returned (.bool b)) (Bool.eq_iff_iff.2 (by rw [decide_eq_true_iff, ba_empty, hR] <;> omega)))
        | (show Ending.returned (.bool (decide ((s.size : Int) ≤ _))) = _; exact congrArg (fun b => Ending.returned (.bool b)) (Bool.eq_iff_iff.2 (by rw [decide_eq_true_iff, hR] <;> omega)))
  · have d1 : (op == 1) = false := beq_eq_false_iff_ne.2 c1
    by_cases c2 : op = 2
    · subst c2
      clear c1 d1
      have HR : Aside0 (r = true ↔ 0 ≤ a ∧ a ≤ 0 ∧ (s.size : Int) ≤ 64) := ⟨by rw [hr, decide_eq_true_iff]; unfold MayI mostI longI; dsimp only; (repeat' split) <;> omega⟩
      clear hr
      go_enter Try.func98, Try.ntmps98
      go_wp2_with fail
      all_goals
        go_ret
        refine ⟨?_, (Below.refl _ _).alloc (Nat.le_refl _) _⟩
        have hR := HR.out
        first
          | (show Ending.returned (.bool true) = _; rw [hR.2 (by omega)])
          | (show Ending.returned (.bool false) = _; rw [show r = false from Bool.eq_false_iff.2 (fun h => by have := hR.1 h; omega)])
          | (show Ending.returned (.bool s.toList.isEmpty) = _; rw [str_empty]; exact congrArg (fun b => Ending.returned (.bool b)) (Bool.eq_iff_iff.2 (by rw [decide_eq_true_iff, hR] <;> omega)))
          | (show Ending.returned (.bool (decide (s = ByteArray.empty))) = _; exact congrArg (fun b => Ending.returned (.bool b)) (Bool.eq_iff_iff.2 (by rw [decide_eq_true_iff, ba_empty, hR] <;> omega)))
          | (show Ending.returned (.bool (decide ((s.size : Int) ≤ _))) = _; exact congrArg (fun b => Ending.returned (.bool b)) (Bool.eq_iff_iff.2 (by rw [decide_eq_true_iff, hR] <;> omega)))
    · have d2 : (op == 2) = false := beq_eq_false_iff_ne.2 c2
      by_cases c19 : op = 19
      · subst c19
        clear c1 d1 c2 d2
        have HR : Aside0 (r = true ↔ 0 ≤ a ∧ a ≤ n ∧ (s.size : Int) ≤ 0) := ⟨by rw [hr, decide_eq_true_iff]; unfold MayI mostI longI; dsimp only; (repeat' split) <;> omega⟩
        clear hr
        go_enter Try.func98, Try.ntmps98
        go_wp2_with fail
        all_goals
          go_ret
          refine ⟨?_, (Below.refl _ _).alloc (Nat.le_refl _) _⟩
          have hR := HR.out
          first
            | (show Ending.returned (.bool true) = _; rw [hR.2 (by omega)])
            | (show Ending.returned (.bool false) = _; rw [show r = false from Bool.eq_false_iff.2 (fun h => by have := hR.1 h; omega)])
            | (show Ending.returned (.bool s.toList.isEmpty) = _; rw [str_empty]; exact congrArg (fun b => Ending.returned (.bool b)) (Bool.eq_iff_iff.2 (by rw [decide_eq_true_iff, hR] <;> omega)))
            | (show Ending.returned (.bool (decide (s = ByteArray.empty))) = _; exact congrArg (fun b => Ending.returned (.bool b)) (Bool.eq_iff_iff.2 (by rw [decide_eq_true_iff, ba_empty, hR] <;> omega)))
            | (show Ending.returned (.bool (decide ((s.size : Int) ≤ _))) = _; exact congrArg (fun b => Ending.returned (.bool b)) (Bool.eq_iff_iff.2 (by rw [decide_eq_true_iff, hR] <;> omega)))
      · have d19 : (op == 19) = false := beq_eq_false_iff_ne.2 c19
        by_cases c20 : op = 20
        · subst c20
          clear c1 d1 c2 d2 c19 d19
          have HR : Aside0 (r = true ↔ 0 ≤ a ∧ a ≤ n ∧ (s.size : Int) ≤ 0) := ⟨by rw [hr, decide_eq_true_iff]; unfold MayI mostI longI; dsimp only; (repeat' split) <;> omega⟩
          clear hr
          go_enter Try.func98, Try.ntmps98
          go_wp2_with fail
          all_goals
            go_ret
            refine ⟨?_, (Below.refl _ _).alloc (Nat.le_refl _) _⟩
            have hR := HR.out
            first
              | (show Ending.returned (.bool true) = _; rw [hR.2 (by omega)])
              | (show Ending.returned (.bool false) = _; rw [show r = false from Bool.eq_false_iff.2 (fun h => by have := hR.1 h; omega)])
              | (show Ending.returned (.bool s.toList.isEmpty) = _; rw [str_empty]; exact congrArg (fun b => Ending.returned (.bool b)) (Bool.eq_iff_iff.2 (by rw [decide_eq_true_iff, hR] <;> omega)))
              | (show Ending.returned (.bool (decide (s = ByteArray.empty))) = _; exact congrArg (fun b => Ending.returned (.bool b)) (Bool.eq_iff_iff.2 (by rw [decide_eq_true_iff, ba_empty, hR] <;> omega)))
              | (show Ending.returned (.bool (decide ((s.size : Int) ≤ _))) = _; exact congrArg (fun b => Ending.returned (.bool b)) (Bool.eq_iff_iff.2 (by rw [decide_eq_true_iff, hR] <;> omega)))
        · have d20 : (op == 20) = false := beq_eq_false_iff_ne.2 c20
          by_cases c21 : op = 21
          · subst c21
            clear c1 d1 c2 d2 c19 d19 c20 d20
            have HR : Aside0 (r = true ↔ 0 ≤ a ∧ a ≤ 7 ∧ (s.size : Int) ≤ 0) := ⟨by rw [hr, decide_eq_true_iff]; unfold MayI mostI longI; dsimp only; (repeat' split) <;> omega⟩
            clear hr
            go_enter Try.func98, Try.ntmps98
            go_wp2_with fail
            all_goals
              go_ret
              refine ⟨?_, (Below.refl _ _).alloc (Nat.le_refl _) _⟩
              have hR := HR.out
              first
                | (show Ending.returned (.bool true) = _; rw [hR.2 (by omega)])
                | (show Ending.returned (.bool false) = _; rw [show r = false from Bool.eq_false_iff.2 (fun h => by have := hR.1 h; omega)])
                | (show Ending.returned (.bool s.toList.isEmpty) = _; rw [str_empty]; exact congrArg (fun b => Ending.returned (.bool b)) (Bool.eq_iff_iff.2 (by rw [decide_eq_true_iff, hR] <;> omega)))
                | (show Ending.returned (.bool (decide (s = ByteArray.empty))) = _; exact congrArg (fun b => Ending.returned (.bool b)) (Bool.eq_iff_iff.2 (by rw [decide_eq_true_iff, ba_empty, hR] <;> omega)))
                | (show Ending.returned (.bool (decide ((s.size : Int) ≤ _))) = _; exact congrArg (fun b => Ending.returned (.bool b)) (Bool.eq_iff_iff.2 (by rw [decide_eq_true_iff, hR] <;> omega)))
          · have d21 : (op == 21) = false := beq_eq_false_iff_ne.2 c21
            by_cases c22 : op = 22
            · subst c22
              clear c1 d1 c2 d2 c19 d19 c20 d20 c21 d21
              have HR : Aside0 (r = true ↔ 0 ≤ a ∧ a ≤ 7 ∧ (s.size : Int) ≤ 0) := ⟨by rw [hr, decide_eq_true_iff]; unfold MayI mostI longI; dsimp only; (repeat' split) <;> omega⟩
              clear hr
              go_enter Try.func98, Try.ntmps98
              go_wp2_with fail
              all_goals
                go_ret
                refine ⟨?_, (Below.refl _ _).alloc (Nat.le_refl _) _⟩
                have hR := HR.out
                first
                  | (show Ending.returned (.bool true) = _; rw [hR.2 (by omega)])
                  | (show Ending.returned (.bool false) = _; rw [show r = false from Bool.eq_false_iff.2 (fun h => by have := hR.1 h; omega)])
                  | (show Ending.returned (.bool s.toList.isEmpty) = _; rw [str_empty]; exact congrArg (fun b => Ending.returned (.bool b)) (Bool.eq_iff_iff.2 (by rw [decide_eq_true_iff, hR] <;> omega)))
                  | (show Ending.returned (.bool (decide (s = ByteArray.empty))) = _; exact congrArg (fun b => Ending.returned (.bool b)) (Bool.eq_iff_iff.2 (by rw [decide_eq_true_iff, ba_empty, hR] <;> omega)))
                  | (show Ending.returned (.bool (decide ((s.size : Int) ≤ _))) = _; exact congrArg (fun b => Ending.returned (.bool b)) (Bool.eq_iff_iff.2 (by rw [decide_eq_true_iff, hR] <;> omega)))
            · have d22 : (op == 22) = false := beq_eq_false_iff_ne.2 c22
              have HR : Aside0 (r = true ↔ 0 ≤ op ∧ op ≤ 23 ∧ 0 ≤ a ∧ a ≤ 0 ∧ (s.size : Int) ≤ 0) := ⟨by rw [hr, decide_eq_true_iff]; unfold MayI mostI longI; dsimp only; (repeat' split) <;> omega⟩
              clear hr
              go_enter Try.func98, Try.ntmps98
              go_wp2_with fail
              all_goals
                go_ret
                refine ⟨?_, (Below.refl _ _).alloc (Nat.le_refl _) _⟩
                have hR := HR.out
                first
                  | (show Ending.returned (.bool true) = _; rw [hR.2 (by omega)])
                  | (show Ending.returned (.bool false) = _; rw [show r = false from Bool.eq_false_iff.2 (fun h => by have := hR.1 h; omega)])
                  | (show Ending.returned (.bool s.toList.isEmpty) = _; rw [str_empty]; exact congrArg (fun b => Ending.returned (.bool b)) (Bool.eq_iff_iff.2 (by rw [decide_eq_true_iff, hR] <;> omega)))
                  | (show Ending.returned (.bool (decide (s = ByteArray.empty))) = _; exact congrArg (fun b => Ending.returned (.bool b)) (Bool.eq_iff_iff.2 (by rw [decide_eq_true_iff, ba_empty, hR] <;> omega)))
                  | (show Ending.returned (.bool (decide ((s.size : Int) ≤ _))) = _; exact congrArg (fun b => Ending.returned (.bool b)) (Bool.eq_iff_iff.2 (by rw [decide_eq_true_iff, hR] <;> omega)))
end Go.Proofs.Ytbnhhlahbhjogaa.K
