/- Programs that may be (XJ1, XJ2 cut to what the machine uses). -/
import Derived.Test.YthdinhgadefgaaaDoorV3
import Derived.Deep.LoopGhost
import Derived.WalkSpells
set_option linter.unusedVariables false
set_option linter.unusedSimpArgs false
namespace Go.Proofs.YthdinhgadefgaaaDoor.T
open Go.RowKit Go.Proofs.YthdinhgadefgaaaDoorW.PrintWords Go.Proofs.YthdinhgadefgaaaDoorW.PrintLast Go.Proofs.YthdinhgadefgaaaDoorW.PrintMore Go.Proofs.YthdinhgadefgaaaDoor.U
/-- An instruction. -/
structure InsD where
  op : Int
  a : Int
  s : ByteArray
def kIns : Kd InsD := Kd.iso (Kd.pair (Kd.int .i64) (Kd.pair (Kd.int .i64) Kd.string)) (fun x => (x.op, x.a, x.s))
def GIns (x : InsD) : Prop := (Lit.int .i64 x.op).wf = true ∧ (Lit.int .i64 x.a).wf = true ∧ x.s.size ≤ 9223372036854775807
theorem open_51 : Opens Tryd.prog 51 kIns GIns :=
  Opens.iso (Opens.struct Tryd.underlying51 (by kernel_rfl) (OpensF.cons (Opens.int Tryd.underlying3) rfl (by kernel_rfl) rfl (OpensF.cons (Opens.int Tryd.underlying3) rfl (by kernel_rfl) rfl (OpensF.one (Opens.string Tryd.underlying9) rfl (by kernel_rfl))))) _ (fun p => ⟨p.1, p.2.1, p.2.2⟩) (fun _ => rfl)
theorem kIns_open {w : World} {x : InsD} {cs : List Value} (h : kIns.K w x cs) : cs = [.int .i64 x.op, .int .i64 x.a, .string x.s] := by
  obtain ⟨_, _, rfl, rfl, ⟨_, _, rfl, rfl, rfl⟩⟩ := h
  rfl
end Go.Proofs.YthdinhgadefgaaaDoor.T
namespace Go.Proofs.YthdinhgadefgaaaDoor.K
open Go.RowKit Go.Proofs.YthdinhgadefgaaaDoorW.PrintWords Go.Proofs.YthdinhgadefgaaaDoorW.PrintLast Go.Proofs.YthdinhgadefgaaaDoorW.PrintMore Go.Proofs.YthdinhgadefgaaaDoor.U Go.Proofs.YthdinhgadefgaaaDoor.T

theorem at_ins {w : World} {A : Option Addr} {n : Nat} {xs : List InsD} (h : Kd.C kIns w A n xs) (k : Nat) (hk : k < xs.length) : ∃ ad, A = some ad ∧ w.cell? (ad.add (k * 3)) = some (.int .i64 xs[k].op) ∧ w.cell? ⟨(ad.add (k * 3)).block, (ad.add (k * 3)).off + 1, none⟩ = some (.int .i64 xs[k].a) ∧ w.cell? ⟨(ad.add (k * 3)).block, (ad.add (k * 3)).off + 2, none⟩ = some (.string xs[k].s) := by
  obtain ⟨ad, c, e, hl, hK, hc⟩ := Kd.C_get h ⟨0, 0, ByteArray.empty⟩ (k : Int) (by omega) (by have := Kd.C_len h; omega)
  obtain rfl := kIns_open hK
  have e2 : xs.getD (k : Int).toNat ⟨0, 0, ByteArray.empty⟩ = xs[k] := by rw [Int.toNat_natCast]; simp [List.getD_eq_getElem?_getD, hk]
  rw [e2] at hc
  have h0 := hc 0 _ rfl
  have h1 := hc 1 _ rfl
  have h2 := hc 2 _ rfl
  rw [Int.toNat_natCast] at h0 h1 h2
  exact ⟨ad, e, h0, (by rw [← add_add'] at h1; exact h1), (by rw [← add_add'] at h2; exact h2)⟩

/-- What an instruction's A and S may be at most. -/
def mostI (x : InsD) (n : Int) : Int := if x.op = 19 ∨ x.op = 20 then n else if x.op = 21 ∨ x.op = 22 then 7 else 0
def longI (x : InsD) : Int := if x.op = 2 then 64 else 0
/-- May an instruction be, of so many? -/
def MayI (x : InsD) (n : Int) : Prop := if x.op = 1 then x.s.size = 0 else 0 ≤ x.op ∧ x.op ≤ 23 ∧ 0 ≤ x.a ∧ x.a ≤ mostI x n ∧ (x.s.size : Int) ≤ longI x
instance (x : InsD) (n : Int) : Decidable (MayI x n) := by unfold MayI; infer_instance
theorem ba_empty (s : ByteArray) : s = ByteArray.empty ↔ s.size = 0 := by
  constructor
  · rintro rfl; rfl
  · intro h
    exact ByteArray.ext (Array.eq_empty_of_size_eq_zero h)
theorem str_empty (s : ByteArray) : s.toList.isEmpty = decide (s.size = 0) := by
  rw [ByteArray.toList_eq]
  by_cases h : s.size = 0
  · rw [decide_eq_true h]
    have : s.data.toList = [] := List.eq_nil_of_length_eq_zero (by rw [Array.length_toList]; exact h)
    rw [this]
    rfl
  · rw [decide_eq_false h]
    have : s.data.toList ≠ [] := fun e => h (by have e2 := congrArg List.length e; rw [Array.length_toList] at e2; exact e2)
    simpa using this
set_option maxHeartbeats 1600000 in
theorem mayIns (op a : Int) (s : ByteArray) (n : Int) (r : Bool) (w : World) (hr : r = decide (MayI ⟨op, a, s⟩ n)) : Calls Tryd.prog 46 #[.agg #[.int .i64 op, .int .i64 a, .string s], .int .i64 n] w fun e w' => e = .returned (.bool r) ∧ Below w.heap.size w w' := by
  by_cases c1 : op = 1
  · subst c1
    have HR : Aside0 (r = true ↔ s.size = 0) := ⟨by rw [hr, decide_eq_true_iff]; unfold MayI mostI longI; dsimp only; (repeat' split) <;> omega⟩
    clear hr
    go_enter Tryd.func46, Tryd.ntmps46
    go_wp2_with fail
    all_goals
      go_ret
      refine ⟨?_, (Below.refl _ _).alloc (Nat.le_refl _) _⟩
      have hR := HR.out
      first
        | (show Ending.returned (.bool true) = _; rw [hR.2 (by omega)])
        | (show Ending.returned (.bool false) = _; rw [show r = false from Bool.eq_false_iff.2 (fun h => by have := hR.1 h; omega)])
        | (show Ending.returned (.bool s.toList.isEmpty) = _; rw [str_empty]; exact congrArg (fun b => Ending.returned (.bool b)) (Bool.eq_iff_iff.2 (by rw [decide_eq_true_iff, hR] <;> omega)))
        | (show Ending.returned (.bool (decide (s = ByteArray.empty))) = _; exact congrArg (fun b => Ending.returned (.bool b)) (Bool.eq_iff_iff.2 (by rw [decide_eq_true_iff, ba_empty, hR] <;> omega)))
        | (show Ending.returned (.bool (decide ((s.size : Int) ≤ _))) = _; exact congrArg (fun b => Ending.returned (.bool b)) (Bool.eq_iff_iff.2 (by rw [decide_eq_true_iff, hR] <;> omega)))
  · have d1 : (op == 1) = false := beq_eq_false_iff_ne.2 c1
    by_cases c2 : op = 2
    · subst c2
      clear c1 d1
      have HR : Aside0 (r = true ↔ 0 ≤ a ∧ a ≤ 0 ∧ (s.size : Int) ≤ 64) := ⟨by rw [hr, decide_eq_true_iff]; unfold MayI mostI longI; dsimp only; (repeat' split) <;> omega⟩
      clear hr
      go_enter Tryd.func46, Tryd.ntmps46
      go_wp2_with fail
      all_goals
        go_ret
        refine ⟨?_, (Below.refl _ _).alloc (Nat.le_refl _) _⟩
        have hR := HR.out
        first
          | (show Ending.returned (.bool true) = _; rw [hR.2 (by omega)])
          | (show Ending.returned (.bool false) = _; rw [show r = false from Bool.eq_false_iff.2 (fun h => by have := hR.1 h; omega)])
          | (show Ending.returned (.bool s.toList.isEmpty) = _; rw [str_empty]; exact congrArg (fun b => Ending.returned (.bool b)) (Bool.eq_iff_iff.2 (by rw [decide_eq_true_iff, hR] <;> omega)))
          | (show Ending.returned (.bool (decide (s = ByteArray.empty))) = _; exact congrArg (fun b => Ending.returned (.bool b)) (Bool.eq_iff_iff.2 (by rw [decide_eq_true_iff, ba_empty, hR] <;> omega)))
          | (show Ending.returned (.bool (decide ((s.size : Int) ≤ _))) = _; exact congrArg (fun b => Ending.returned (.bool b)) (Bool.eq_iff_iff.2 (by rw [decide_eq_true_iff, hR] <;> omega)))
    · have d2 : (op == 2) = false := beq_eq_false_iff_ne.2 c2
      by_cases c19 : op = 19
      · subst c19
        clear c1 d1 c2 d2
        have HR : Aside0 (r = true ↔ 0 ≤ a ∧ a ≤ n ∧ (s.size : Int) ≤ 0) := ⟨by rw [hr, decide_eq_true_iff]; unfold MayI mostI longI; dsimp only; (repeat' split) <;> omega⟩
        clear hr
        go_enter Tryd.func46, Tryd.ntmps46
        go_wp2_with fail
        all_goals
          go_ret
          refine ⟨?_, (Below.refl _ _).alloc (Nat.le_refl _) _⟩
          have hR := HR.out
          first
            | (show Ending.returned (.bool true) = _; rw [hR.2 (by omega)])
            | (show Ending.returned (.bool false) = _; rw [show r = false from Bool.eq_false_iff.2 (fun h => by have := hR.1 h; omega)])
            | (show Ending.returned (.bool s.toList.isEmpty) = _; rw [str_empty]; exact congrArg (fun b => Ending.returned (.bool b)) (Bool.eq_iff_iff.2 (by rw [decide_eq_true_iff, hR] <;> omega)))
            | (show Ending.returned (.bool (decide (s = ByteArray.empty))) = _; exact congrArg (fun b => Ending.returned (.bool b)) (Bool.eq_iff_iff.2 (by rw [decide_eq_true_iff, ba_empty, hR] <;> omega)))
            | (show Ending.returned (.bool (decide ((s.size : Int) ≤ _))) = _; exact congrArg (fun b => Ending.returned (.bool b)) (Bool.eq_iff_iff.2 (by rw [decide_eq_true_iff, hR] <;> omega)))
      · have d19 : (op == 19) = false := beq_eq_false_iff_ne.2 c19
        by_cases c20 : op = 20
        · subst c20
          clear c1 d1 c2 d2 c19 d19
          have HR : Aside0 (r = true ↔ 0 ≤ a ∧ a ≤ n ∧ (s.size : Int) ≤ 0) := ⟨by rw [hr, decide_eq_true_iff]; unfold MayI mostI longI; dsimp only; (repeat' split) <;> omega⟩
          clear hr
          go_enter Tryd.func46, Tryd.ntmps46
          go_wp2_with fail
          all_goals
            go_ret
            refine ⟨?_, (Below.refl _ _).alloc (Nat.le_refl _) _⟩
            have hR := HR.out
            first
              | (show Ending.returned (.bool true) = _; rw [hR.2 (by omega)])
              | (show Ending.returned (.bool false) = _; rw [show r = false from Bool.eq_false_iff.2 (fun h => by have := hR.1 h; omega)])
              | (show Ending.returned (.bool s.toList.isEmpty) = _; rw [str_empty]; exact congrArg (fun b => Ending.returned (.bool b)) (Bool.eq_iff_iff.2 (by rw [decide_eq_true_iff, hR] <;> omega)))
              | (show Ending.returned (.bool (decide (s = ByteArray.empty))) = _; exact congrArg (fun b => Ending.returned (.bool b)) (Bool.eq_iff_iff.2 (by rw [decide_eq_true_iff, ba_empty, hR] <;> omega)))
              | (show Ending.returned (.bool (decide ((s.size : Int) ≤ _))) = _; exact congrArg (fun b => Ending.returned (.bool b)) (Bool.eq_iff_iff.2 (by rw [decide_eq_true_iff, hR] <;> omega)))
        · have d20 : (op == 20) = false := beq_eq_false_iff_ne.2 c20
          by_cases c21 : op = 21
          · subst c21
            clear c1 d1 c2 d2 c19 d19 c20 d20
            have HR : Aside0 (r = true ↔ 0 ≤ a ∧ a ≤ 7 ∧ (s.size : Int) ≤ 0) := ⟨by rw [hr, decide_eq_true_iff]; unfold MayI mostI longI; dsimp only; (repeat' split) <;> omega⟩
            clear hr
            go_enter Tryd.func46, Tryd.ntmps46
            go_wp2_with fail
            all_goals
              go_ret
              refine ⟨?_, (Below.refl _ _).alloc (Nat.le_refl _) _⟩
              have hR := HR.out
              first
                | (show Ending.returned (.bool true) = _; rw [hR.2 (by omega)])
                | (show Ending.returned (.bool false) = _; rw [show r = false from Bool.eq_false_iff.2 (fun h => by have := hR.1 h; omega)])
                | (show Ending.returned (.bool s.toList.isEmpty) = _; rw [str_empty]; exact congrArg (fun b => Ending.returned (.bool b)) (Bool.eq_iff_iff.2 (by rw [decide_eq_true_iff, hR] <;> omega)))
                | (show Ending.returned (.bool (decide (s = ByteArray.empty))) = _; exact congrArg (fun b => Ending.returned (.bool b)) (Bool.eq_iff_iff.2 (by rw [decide_eq_true_iff, ba_empty, hR] <;> omega)))
                | (show Ending.returned (.bool (decide ((s.size : Int) ≤ _))) = _; exact congrArg (fun b => Ending.returned (.bool b)) (Bool.eq_iff_iff.2 (by rw [decide_eq_true_iff, hR] <;> omega)))
          · have d21 : (op == 21) = false := beq_eq_false_iff_ne.2 c21
            by_cases c22 : op = 22
            · subst c22
              clear c1 d1 c2 d2 c19 d19 c20 d20 c21 d21
              have HR : Aside0 (r = true ↔ 0 ≤ a ∧ a ≤ 7 ∧ (s.size : Int) ≤ 0) := ⟨by rw [hr, decide_eq_true_iff]; unfold MayI mostI longI; dsimp only; (repeat' split) <;> omega⟩
              clear hr
              go_enter Tryd.func46, Tryd.ntmps46
              go_wp2_with fail
              all_goals
                go_ret
                refine ⟨?_, (Below.refl _ _).alloc (Nat.le_refl _) _⟩
                have hR := HR.out
                first
                  | (show Ending.returned (.bool true) = _; rw [hR.2 (by omega)])
                  | (show Ending.returned (.bool false) = _; rw [show r = false from Bool.eq_false_iff.2 (fun h => by have := hR.1 h; omega)])
                  | (show Ending.returned (.bool s.toList.isEmpty) = _; rw [str_empty]; exact congrArg (fun b => Ending.returned (.bool b)) (Bool.eq_iff_iff.2 (by rw [decide_eq_true_iff, hR] <;> omega)))
                  | (show Ending.returned (.bool (decide (s = ByteArray.empty))) = _; exact congrArg (fun b => Ending.returned (.bool b)) (Bool.eq_iff_iff.2 (by rw [decide_eq_true_iff, ba_empty, hR] <;> omega)))
                  | (show Ending.returned (.bool (decide ((s.size : Int) ≤ _))) = _; exact congrArg (fun b => Ending.returned (.bool b)) (Bool.eq_iff_iff.2 (by rw [decide_eq_true_iff, hR] <;> omega)))
            · have d22 : (op == 22) = false := beq_eq_false_iff_ne.2 c22
              have HR : Aside0 (r = true ↔ 0 ≤ op ∧ op ≤ 23 ∧ 0 ≤ a ∧ a ≤ 0 ∧ (s.size : Int) ≤ 0) := ⟨by rw [hr, decide_eq_true_iff]; unfold MayI mostI longI; dsimp only; (repeat' split) <;> omega⟩
              clear hr
              go_enter Tryd.func46, Tryd.ntmps46
              go_wp2_with fail
              all_goals
                go_ret
                refine ⟨?_, (Below.refl _ _).alloc (Nat.le_refl _) _⟩
                have hR := HR.out
                first
                  | (show Ending.returned (.bool true) = _; rw [hR.2 (by omega)])
                  | (show Ending.returned (.bool false) = _; rw [show r = false from Bool.eq_false_iff.2 (fun h => by have := hR.1 h; omega)])
                  | (show Ending.returned (.bool s.toList.isEmpty) = _; rw [str_empty]; exact congrArg (fun b => Ending.returned (.bool b)) (Bool.eq_iff_iff.2 (by rw [decide_eq_true_iff, hR] <;> omega)))
                  | (show Ending.returned (.bool (decide (s = ByteArray.empty))) = _; exact congrArg (fun b => Ending.returned (.bool b)) (Bool.eq_iff_iff.2 (by rw [decide_eq_true_iff, ba_empty, hR] <;> omega)))
                  | (show Ending.returned (.bool (decide ((s.size : Int) ≤ _))) = _; exact congrArg (fun b => Ending.returned (.bool b)) (Bool.eq_iff_iff.2 (by rw [decide_eq_true_iff, hR] <;> omega)))
attribute [local go_sem] max2_int min2_int
theorem two_andj (w w1 w2 : World) (h : Below w.heap.size w w1) (k : Below w1.heap.size w1 w2) : Below w.heap.size w w2 := below_then h h.size k
/-- May a program be? -/
def CodeMay (p : List InsD) : Prop := p.length ≤ 40 ∧ ∀ x ∈ p, MayI x p.length
instance (p : List InsD) : Decidable (CodeMay p) := by unfold CodeMay; infer_instance
/-- May pairs be? -/
def PairsMay (l : List PairD) : Prop := ∀ x ∈ l, x.key.size ≤ 16 ∧ x.val.size ≤ 64
instance (l : List PairD) : Decidable (PairsMay l) := by unfold PairsMay; infer_instance

set_option maxRecDepth 10000 in
set_option maxHeartbeats 1600000 in
theorem bad (A0 : Option Addr) (c0 : Nat) (l0 : List InsD) (w : World) (hr0 : Kd.C kIns w A0 l0.length l0) (hc0 : l0.length ≤ c0) :
    Calls Tryd.prog 40 #[.slice A0 l0.length c0] w fun e w' => ∃ b : Int, e = .returned (.int .i64 b) ∧ Aside0 (b < 0 ↔ CodeMay l0) ∧ Below w.heap.size w w' := by
  have hm0 := Kd.C_max hr0
  have HR0 := Aside0.mk hr0
  have hu := Tryd.underlying51
  clear hr0
  obtain ⟨m, hm⟩ : ∃ m : Nat, m = min l0.length 40 := ⟨_, rfl⟩
  have hml : m ≤ l0.length := by omega
  have HM := Aside0.mk hm
  have hif : (if (40 : Int) < l0.length then (40 : Int) else l0.length) = m := by split <;> omega
  clear hm
  go_enter Tryd.func40, Tryd.ntmps40
  go_wp2_with fail
  go_loopg [11] m (fun kq v w' => ∃ k : Nat, k + kq = m ∧ v = .int .i64 k ∧ Aside0 (∀ j (hj : j < l0.length), j < k → MayI l0[j] l0.length) ∧ Aside0 (Below w.heap.size w w'))
  case atStart => exact ⟨0, by omega, rfl, ⟨fun j hj h => by omega⟩, ⟨Below.refl _ _⟩⟩
  case round =>
    obtain ⟨k, hk, rfl, HA, HB⟩ := hrel
    by_cases hlt : k < m
    · obtain ⟨ad, rfl, hx0, hx1, hx2⟩ := at_ins (Kd.C_below HR0.out HB.out) k (by omega)
      obtain ⟨x, hx⟩ : ∃ x, x = l0[k] := ⟨_, rfl⟩
      rw [← hx] at hx0 hx1 hx2
      have HX := Aside0.mk hx
      obtain ⟨op, a, s⟩ := x
      have hk40 : (k : Int) < 40 := by have := HM.out; omega
      have hkl : (k : Int) < l0.length := by omega
      clear hx
      by_cases hmay : MayI ⟨op, a, s⟩ l0.length
      · have HRR := Aside0.mk (decide_eq_true hmay).symm
        have HMAY := Aside0.mk hmay
        clear hmay
        go_wp2_with fail
        refine (mayIns op a s l0.length true _ HRR.out).mono ?_
        rintro e w1 ⟨rfl, hb1⟩
        have HB1 := Aside0.mk (two_andj _ _ _ (HB.out.alloc HB.out.size _) hb1)
        clear hb1
        go_wp2_with fail
        go_roundg (m - (k + 1))
        case measure => omega
        case rel => exact ⟨k + 1, by omega, by go_num, ⟨fun j hj h => by
            rcases Nat.lt_or_ge j k with h1 | h1
            · exact HA.out j hj h1
            · obtain rfl : j = k := by omega
              rw [← HX.out]
              exact HMAY.out⟩, HB1⟩
      · have HRR := Aside0.mk (decide_eq_false hmay).symm
        have HMAY := Aside0.mk hmay
        clear hmay
        go_wp2_with fail
        refine (mayIns op a s l0.length false _ HRR.out).mono ?_
        rintro e w1 ⟨rfl, hb1⟩
        have HB1 := Aside0.mk (two_andj _ _ _ (HB.out.alloc HB.out.size _) hb1)
        clear hb1
        go_wp2_with fail
        go_ret
        exact ⟨(k : Int), rfl, ⟨by constructor <;> intro h; omega; exact absurd (h.2 _ (List.getElem_mem (show k < l0.length by omega))) (by rw [← HX.out]; exact HMAY.out)⟩, HB1.out⟩
    · obtain rfl : k = m := by omega
      by_cases h40 : 40 < l0.length
      · have hk40 : (40 : Int) ≤ k := by have := HM.out; omega
        have hkl2 : (k : Int) < l0.length := by have := HM.out; omega
        go_wp2_with fail
        go_ret
        refine ⟨_, rfl, ⟨?_⟩, HB.out⟩
        exact ⟨fun h => absurd h (by decide), fun h => absurd h.1 (by omega)⟩
      · have hkl : (l0.length : Int) ≤ k := by have := HM.out; omega
        go_wp2_with fail
        go_ret
        refine ⟨_, rfl, ⟨?_⟩, HB.out⟩
        refine ⟨fun _ => ⟨by omega, fun x hx => ?_⟩, fun _ => by decide⟩
        obtain ⟨j, hj, rfl⟩ := List.getElem_of_mem hx
        exact HA.out j hj (by have := HM.out; omega)
theorem progMay (A0 : Option Addr) (c0 : Nat) (l0 : List InsD) (w : World) (hr0 : Kd.C kIns w A0 l0.length l0) (hc0 : l0.length ≤ c0) (r : Bool) (hr : r = decide (CodeMay l0)) :
    Calls Tryd.prog 29 #[.slice A0 l0.length c0] w fun e w' => e = .returned (.bool r) ∧ Below w.heap.size w w' := by
  have hm0 := Kd.C_max hr0
  have HR0 := Aside0.mk hr0
  have HR := Aside0.mk hr
  clear hr0 hr
  go_enter Tryd.func29, Tryd.ntmps29
  go_wp2_with fail
  refine (bad A0 c0 l0 w HR0.out hc0).mono ?_
  rintro e w1 ⟨b, rfl, HBB, hb1⟩
  have HB1 := Aside0.mk hb1
  clear hb1
  go_wp2_with fail
  go_ret
  exact ⟨congrArg (fun b => Ending.returned (.bool b)) (show decide (b < 0) = r by rw [HR.out]; exact decide_eq_decide.2 HBB.out), HB1.out⟩
end Go.Proofs.YthdinhgadefgaaaDoor.K
