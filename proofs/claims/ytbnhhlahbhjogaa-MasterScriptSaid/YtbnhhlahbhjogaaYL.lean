/- A drawn region whose loads hold up to a call: what is asked of the world may hang on which operations have come up. -/
import Derived.Test.YtbnhhlahbhjogaaY17
set_option linter.unusedVariables false
set_option linter.unusedSimpArgs false
set_option maxRecDepth 100000
namespace Go.Proofs.Ytbnhhlahbhjogaa.K
open Go Go.RowKit Go.Proofs.YtbnhhlahbhjogaaW.PrintWords Go.Proofs.YtbnhhlahbhjogaaW.PrintLast Go.Proofs.YtbnhhlahbhjogaaW.PrintMore Go.Proofs.Ytbnhhlahbhjogaa.U Go.Proofs.Ytbnhhlahbhjogaa.T

section
variable {P : Program} {md : Region.Mode} {ops : Array Oper} {Q : Exit → Act → World → Prop} {S : Array Bool → World → Prop}
/-- In whatever order the rest comes, S holds behind each, said of what has come up by then. -/
def Rest (P : Program) (md : Region.Mode) (ops : Array Oper) (Q : Exit → Act → World → Prop) (S : Array Bool → World → Prop) : Nat → Array Bool → Act → World → Prop
  | 0, l, a, w => Region.ready md ops l = [] ∧ Q .normal a w
  | n + 1, l, a, w => (Region.ready md ops l = [] → Q .normal a w) ∧ ∀ i, i ∈ Region.ready md ops l → wpOp P ops Q i (fun a' w' => S (l.setIfInBounds i true) w' ∧ Rest P md ops Q S n (l.setIfInBounds i true) a' w') a w
theorem Rest.any : ∀ (n : Nat) (l : Array Bool) (a : Act) (w : World), Rest P md ops Q S n l a w → wpAny P md ops Q n l a w
  | 0, _, _, _, h => h
  | n + 1, _, _, _, h => ⟨h.1, fun i hi => wpOp_mono (fun a' w' k => Rest.any n _ a' w' k.2) (h.2 i hi)⟩
/-- Number i may be taken first: as long as it has not come up C holds, and by C the world is one of T's, where it yields. -/
theorem Rest.first {T : World → Prop} {C : Array Bool → Prop} {i : Nat} {oi : Oper} {v : Value} (hi : ops[i]? = some oi) (hsel : Region.noSelect ops = true)
    (hQ : ∀ c a w, Q (.panic c) (a.put oi.dst v) w → Q (.panic c) a w)
    (hC : ∀ l j oj, C l → ops[j]? = some oj → j ≠ i → (∀ e ∈ oj.after, Region.binds md e = true → e.on ≠ i) → C (l.setIfInBounds j true))
    (hT : ∀ l w, C l → S l w → T w) (hS : ∀ l w, S (l.setIfInBounds i true) w ↔ S l w) :
    ∀ (n : Nat) (l : Array Bool) (a : Act) (w : World),
      (∀ j oj, ops[j]? = some oj → j ≠ i → l.getD j true = false → (∀ e ∈ oj.after, Region.binds md e = true → e.on ≠ i) → oi.apart ops oj = true) →
      i ∈ Region.ready md ops l → YieldsIf P ops T oi v a → C l → S l w →
      Rest P md ops Q S n (l.setIfInBounds i true) (a.put oi.dst v) w → Rest P md ops Q S (n + 1) l a w := by
  intro n
  induction n with
  | zero =>
    intro l a w _ hr hy hc hs H
    refine ⟨fun e => (by rw [e] at hr; cases hr), fun j hj => ?_⟩
    by_cases e : j = i
    · subst e
      exact hy.wpOp hi (hT l w hc hs) ⟨(hS l w).2 hs, H⟩
    · have k := ready_mono hj e
      rw [H.1] at k
      cases k
  | succ n ih =>
    intro l a w hf hr hy hc hs H
    refine ⟨fun e => (by rw [e] at hr; cases hr), fun j hj => ?_⟩
    by_cases e : j = i
    · subst e
      exact hy.wpOp hi (hT l w hc hs) ⟨(hS l w).2 hs, H⟩
    · obtain ⟨hun, oj, hoj, hall⟩ := mem_ready.1 hj
      have hno : ∀ x ∈ oj.after, Region.binds md x = true → x.on ≠ i := fun x hx hb e' => by
        have k1 := hall x hx hb
        have k0 := (mem_ready.1 hr).1
        rw [e'] at k1
        rcases Nat.lt_or_ge i l.size with h' | h'
        · simp [h'] at k0 k1
          rw [k0] at k1
          cases k1
        · simp [Array.getElem?_eq_none h'] at k1
      have hstep := wpOp_putIf hoj (hf j oj hoj e hun hno) (fun cs b => Region.noSelect_spec hsel i oi cs b hi) (fun cs b => Region.noSelect_spec hsel j oj cs b hoj) hQ hy (H.2 j (ready_mono hj e))
      refine wpOp_mono (fun a' w' k => ?_) hstep
      obtain ⟨k1, k2, k3⟩ := k
      rw [Array.setIfInBounds_comm _ _ (Ne.symm e)] at k2 k3
      have hsj : S (l.setIfInBounds j true) w' := (hS _ _).1 k2
      refine ⟨hsj, ih (l.setIfInBounds j true) a' w' (fun x ox hx hxi hu hn => hf x ox hx hxi ?_ hn) (ready_mono hr (Ne.symm e)) k1 (hC l j oj hc hoj e hno) hsj k3⟩
      by_cases hjx : j = x
      · subst hjx
        exact hun
      · rw [getD_set_ne true hjx] at hu
        exact hu
/-- What yields in every world is taken first. -/
theorem Rest.take {i : Nat} {oi : Oper} {v : Value} {n : Nat} {l : Array Bool} {a : Act} {w : World} (hi : ops[i]? = some oi) (hsel : Region.noSelect ops = true) (hf : Region.free md ops l i = true) (hr : (Region.ready md ops l).contains i = true)
    (hQ : ∀ c a w, Q (.panic c) (a.put oi.dst v) w → Q (.panic c) a w) (hS : ∀ l w, S (l.setIfInBounds i true) w ↔ S l w) (hs : S l w) (hy : YieldsIf P ops (fun _ => True) oi v a)
    (h : Rest P md ops Q S n (l.setIfInBounds i true) (a.put oi.dst v) w) : Rest P md ops Q S (n + 1) l a w :=
  Rest.first (T := fun _ => True) (C := fun _ => True) hi hsel hQ (fun _ _ _ _ _ _ _ => trivial) (fun _ _ _ _ => trivial) hS n l a w (Region.free_spec hi hf) (by simpa using hr) hy trivial hs h
/-- A load, for which number c waits: till c has come up the world is one of T's. -/
theorem Rest.load {T : World → Prop} {i c : Nat} {oi oc : Oper} {v : Value} {n : Nat} {l : Array Bool} {a : Act} {w : World} (hi : ops[i]? = some oi) (hsel : Region.noSelect ops = true) (hf : Region.free md ops l i = true) (hr : (Region.ready md ops l).contains i = true)
    (hQ : ∀ c a w, Q (.panic c) (a.put oi.dst v) w → Q (.panic c) a w) (hS : ∀ l w, S (l.setIfInBounds i true) w ↔ S l w) (hs : S l w)
    (hoc : ops[c]? = some oc) (hw : oc.after.any (fun e => Region.binds md e && e.on == i) = true) (hl : l.getD c true = false) (hT : ∀ l w, l.getD c true = false → S l w → T w) (hy : YieldsIf P ops T oi v a)
    (h : Rest P md ops Q S n (l.setIfInBounds i true) (a.put oi.dst v) w) : Rest P md ops Q S (n + 1) l a w := by
  refine Rest.first (T := T) (C := fun l => l.getD c true = false) hi hsel hQ (fun l j oj hc hoj hji hno => ?_) hT hS n l a w (Region.free_spec hi hf) (by simpa using hr) hy hl hs h
  have hjc : j ≠ c := by
    rintro rfl
    rw [hoc] at hoj
    injection hoj with hoj
    subst hoj
    obtain ⟨k, hk, hx⟩ := Array.any_eq_true.1 hw
    rw [Bool.and_eq_true, beq_iff_eq] at hx
    exact hno _ (Array.getElem_mem hk) hx.1 hx.2
  show (l.setIfInBounds j true).getD c true = false
  rw [getD_set_ne true hjc]
  exact hc
/-- One alone may come up. -/
theorem Rest.one {i : Nat} {o : Oper} {n : Nat} {l : Array Bool} {a : Act} {w : World} (hr : Region.ready md ops l = [i]) (ho : ops[i]? = some o)
    (h : ∀ K' : Act → World → Prop, Shut (∀ a w, S (l.setIfInBounds i true) w → Rest P md ops Q S n (l.setIfInBounds i true) a w → K' a w) → if Region.wanted o (yielded ops a.tmps) = true then Oper.wp P o a w K' Q else K' (a.put o.dst undef) w) : Rest P md ops Q S (n + 1) l a w := by
  refine ⟨fun e => (by rw [hr] at e; cases e), fun j hj => ?_⟩
  rw [hr] at hj
  obtain rfl := List.mem_singleton.1 hj
  exact wpOp_step ho (fun K' hK => h K' (fun a w h1 h2 => hK a w ⟨h1, h2⟩))
theorem Rest.done {l : Array Bool} {a : Act} {w : World} (hr : Region.ready md ops l = []) (h : Q .normal a w) : ∀ n, Rest P md ops Q S n l a w
  | 0 => ⟨hr, h⟩
  | _ + 1 => ⟨fun _ => h, fun i hi => (by rw [hr] at hi; cases hi)⟩
theorem Rest.begin {id : Nat} {a : Act} {w : World} (hm : P.follows .mixedOrders = true) (h : Rest P .any ops Q S ops.size (Array.replicate ops.size false) a w.drew) : (Code.region id ops true).wp P Q a w :=
  wp_region_any hm (Rest.any _ _ _ _ h)
end
end Go.Proofs.Ytbnhhlahbhjogaa.K
