/- A drawn region whose loads hold up to a call: what is asked of the world may hang on which operations have come up. -/
import Derived.Test.YtckjgfbfjjiikaaT
import Derived.Test.YtckjgfbfjjiikaaCh
import Derived.Test.YtckjgfbfjjiikaaWMore
import Derived.Deep.RegionHeldLaw
set_option linter.unusedVariables false
set_option linter.unusedSimpArgs false
set_option maxRecDepth 100000
namespace Go.Proofs.Ytckjgfbfjjiikaa.K
open Go Go.RowKit Go.Proofs.YtckjgfbfjjiikaaW.PrintWords Go.Proofs.YtckjgfbfjjiikaaW.PrintLast Go.Proofs.YtckjgfbfjjiikaaW.PrintMore Go.Proofs.Ytckjgfbfjjiikaa.U Go.Proofs.Ytckjgfbfjjiikaa.T

section
variable {P : Program} {md : Region.Mode} {ops : Array Oper} {Q : Exit → Act → World → Prop} {S : Array Bool → World → Prop}
/-- In whatever order the rest comes, S holds behind each, said of what has come up by then. -/
def Rest (P : Program) (md : Region.Mode) (ops : Array Oper) (Q : Exit → Act → World → Prop) (S : Array Bool → World → Prop) : Nat → Array Bool → Act → World → Prop
  | 0, l, a, w => Region.ready md ops l = [] ∧ Q .normal a w
  | n + 1, l, a, w => (Region.ready md ops l = [] → Q .normal a w) ∧ ∀ i, i ∈ Region.ready md ops l → wpOp P ops Q i (fun a' w' => S (l.setIfInBounds i true) w' ∧ Rest P md ops Q S n (l.setIfInBounds i true) a' w') a w
theorem Rest.any : ∀ (n : Nat) (l : Array Bool) (a : Act) (w : World), Rest P md ops Q S n l a w → wpAny P md ops Q n l a w
  | 0, _, _, _, h => h
  | n + 1, _, _, _, h => ⟨h.1, fun i hi => wpOp_mono (fun a' w' k => Rest.any n _ a' w' k.2) (h.2 i hi)⟩
/-- Number i may be taken first: as long as it has not come up C holds, and by C the world is one of T's, where it yields. -/
theorem Rest.first {T : World → Prop} {C : Array Bool → Prop} {i : Nat} {oi : Oper} {v : Value} (hi : ops[i]? = some oi) (hsel : Region.noSelect ops = true)
    (hQ : ∀ c a w, Q (.panic c) (a.put oi.dst v) w → Q (.panic c) a w)
    (hC : ∀ l j oj, C l → j ∈ Region.ready md ops l → ops[j]? = some oj → j ≠ i → (∀ e ∈ oj.after, Region.binds md e = true → e.on ≠ i) → C (l.setIfInBounds j true))
    (hT : ∀ l w, C l → S l w → T w) (hS : ∀ l w, S (l.setIfInBounds i true) w ↔ S l w) :
    ∀ (n : Nat) (l : Array Bool) (a : Act) (w : World),
      (∀ j oj, ops[j]? = some oj → j ≠ i → l.getD j true = false → (∀ e ∈ oj.after, Region.binds md e = true → e.on ≠ i) → oi.apart ops oj = true) →
      i ∈ Region.ready md ops l → YieldsIf P ops T oi v a → C l → S l w →
      Rest P md ops Q S n (l.setIfInBounds i true) (a.put oi.dst v) w → Rest P md ops Q S (n + 1) l a w := by
  intro n
  induction n with
  | zero =>
    intro l a w _ hr hy hc hs H
    refine ⟨fun e => (by rw [e] at hr; cases hr), fun j hj => ?_⟩
    by_cases e : j = i
    · subst e
      exact hy.wpOp hi (hT l w hc hs) ⟨(hS l w).2 hs, H⟩
    · have k := ready_mono hj e
      rw [H.1] at k
      cases k
  | succ n ih =>
    intro l a w hf hr hy hc hs H
    refine ⟨fun e => (by rw [e] at hr; cases hr), fun j hj => ?_⟩
    by_cases e : j = i
    · subst e
      exact hy.wpOp hi (hT l w hc hs) ⟨(hS l w).2 hs, H⟩
    · obtain ⟨hun, oj, hoj, hall⟩ := mem_ready.1 hj
      have hno : ∀ x ∈ oj.after, Region.binds md x = true → x.on ≠ i := fun x hx hb e' => by
        have k1 := hall x hx hb
        have k0 := (mem_ready.1 hr).1
        rw [e'] at k1
        rcases Nat.lt_or_ge i l.size with h' | h'
        · simp [h'] at k0 k1
          rw [k0] at k1
          cases k1
        · simp [Array.getElem?_eq_none h'] at k1
      have hstep := wpOp_putIf hoj (hf j oj hoj e hun hno) (fun cs b => Region.noSelect_spec hsel i oi cs b hi) (fun cs b => Region.noSelect_spec hsel j oj cs b hoj) hQ hy (H.2 j (ready_mono hj e))
      refine wpOp_mono (fun a' w' k => ?_) hstep
      obtain ⟨k1, k2, k3⟩ := k
      rw [Array.setIfInBounds_comm _ _ (Ne.symm e)] at k2 k3
      have hsj : S (l.setIfInBounds j true) w' := (hS _ _).1 k2
      refine ⟨hsj, ih (l.setIfInBounds j true) a' w' (fun x ox hx hxi hu hn => hf x ox hx hxi ?_ hn) (ready_mono hr (Ne.symm e)) k1 (hC l j oj hc hj hoj e hno) hsj k3⟩
      by_cases hjx : j = x
      · subst hjx
        exact hun
      · rw [getD_set_ne true hjx] at hu
        exact hu
/-- What yields in every world is taken first. -/
theorem Rest.take {i : Nat} {oi : Oper} {v : Value} {n : Nat} {l : Array Bool} {a : Act} {w : World} (hi : ops[i]? = some oi) (hsel : Region.noSelect ops = true) (hf : Region.free md ops l i = true) (hr : (Region.ready md ops l).contains i = true)
    (hQ : ∀ c a w, Q (.panic c) (a.put oi.dst v) w → Q (.panic c) a w) (hS : ∀ l w, S (l.setIfInBounds i true) w ↔ S l w) (hs : S l w) (hy : YieldsIf P ops (fun _ => True) oi v a)
    (h : Rest P md ops Q S n (l.setIfInBounds i true) (a.put oi.dst v) w) : Rest P md ops Q S (n + 1) l a w :=
  Rest.first (T := fun _ => True) (C := fun _ => True) hi hsel hQ (fun _ _ _ _ _ _ _ _ => trivial) (fun _ _ _ _ => trivial) hS n l a w (Region.free_spec hi hf) (by simpa using hr) hy trivial hs h
/-- A load, for which number c waits: till c has come up the world is one of T's. -/
theorem Rest.load {T : World → Prop} {i c : Nat} {oi oc : Oper} {v : Value} {n : Nat} {l : Array Bool} {a : Act} {w : World} (hi : ops[i]? = some oi) (hsel : Region.noSelect ops = true) (hf : Region.free md ops l i = true) (hr : (Region.ready md ops l).contains i = true)
    (hQ : ∀ c a w, Q (.panic c) (a.put oi.dst v) w → Q (.panic c) a w) (hS : ∀ l w, S (l.setIfInBounds i true) w ↔ S l w) (hs : S l w)
    (hoc : ops[c]? = some oc) (hw : oc.after.any (fun e => Region.binds md e && e.on == i) = true) (hl : l.getD c true = false) (hT : ∀ l w, l.getD c true = false → S l w → T w) (hy : YieldsIf P ops T oi v a)
    (h : Rest P md ops Q S n (l.setIfInBounds i true) (a.put oi.dst v) w) : Rest P md ops Q S (n + 1) l a w := by
  refine Rest.first (T := T) (C := fun l => l.getD c true = false) hi hsel hQ (fun l j oj hc _ hoj hji hno => ?_) hT hS n l a w (Region.free_spec hi hf) (by simpa using hr) hy hl hs h
  have hjc : j ≠ c := by
    rintro rfl
    rw [hoc] at hoj
    injection hoj with hoj
    subst hoj
    obtain ⟨k, hk, hx⟩ := Array.any_eq_true.1 hw
    rw [Bool.and_eq_true, beq_iff_eq] at hx
    exact hno _ (Array.getElem_mem hk) hx.1 hx.2
  show (l.setIfInBounds j true).getD c true = false
  rw [getD_set_ne true hjc]
  exact hc
/-- One alone may come up. -/
theorem Rest.one {i : Nat} {o : Oper} {n : Nat} {l : Array Bool} {a : Act} {w : World} (hr : Region.ready md ops l = [i]) (ho : ops[i]? = some o)
    (h : ∀ K' : Act → World → Prop, Shut (∀ a w, S (l.setIfInBounds i true) w → Rest P md ops Q S n (l.setIfInBounds i true) a w → K' a w) → if Region.wanted o (yielded ops a.tmps) = true then Oper.wp P o a w K' Q else K' (a.put o.dst undef) w) : Rest P md ops Q S (n + 1) l a w := by
  refine ⟨fun e => (by rw [hr] at e; cases e), fun j hj => ?_⟩
  rw [hr] at hj
  obtain rfl := List.mem_singleton.1 hj
  exact wpOp_step ho (fun K' hK => h K' (fun a w h1 h2 => hK a w ⟨h1, h2⟩))
theorem Rest.done {l : Array Bool} {a : Act} {w : World} (hr : Region.ready md ops l = []) (h : Q .normal a w) : ∀ n, Rest P md ops Q S n l a w
  | 0 => ⟨hr, h⟩
  | _ + 1 => ⟨fun _ => h, fun i hi => (by rw [hr] at hi; cases hi)⟩
theorem Rest.begin {id : Nat} {a : Act} {w : World} (hm : P.follows .mixedOrders = true) (h : Rest P .any ops Q S ops.size (Array.replicate ops.size false) a w.drew) : (Code.region id ops true).wp P Q a w :=
  wp_region_any hm (Rest.any _ _ _ _ h)
theorem Rest.held {S' : World → Prop} {i : Nat} {oi : Oper} {v : Value} {n : Nat} {l : Array Bool} {a : Act} {w : World} (hi : ops[i]? = some oi) (hsel : Region.noSelect ops = true) (hf : Region.free md ops l i = true) (hr : (Region.ready md ops l).contains i = true)
    (hQ : ∀ c a w, Q (.panic c) (a.put oi.dst v) w → Q (.panic c) a w) (hs : S' w) (hy : YieldsIf P ops S' oi v a)
    (h : Rest P md ops Q (fun _ => S') n (l.setIfInBounds i true) (a.put oi.dst v) w) : Rest P md ops Q (fun _ => S') (n + 1) l a w :=
  Rest.first (T := S') (C := fun _ => True) hi hsel hQ (fun _ _ _ _ _ _ _ _ => trivial) (fun _ _ _ h => h) (fun _ _ => Iff.rfl) n l a w (Region.free_spec hi hf) (by simpa using hr) hy trivial hs h
end
/-- Two may come up. -/
theorem Rest.two {P : Program} {md : Region.Mode} {ops : Array Oper} {Q : Exit → Act → World → Prop} {S : Array Bool → World → Prop} {i j : Nat} {o o2 : Oper} {n : Nat} {l : Array Bool} {a : Act} {w : World} (hr : Region.ready md ops l = [i, j]) (ho : ops[i]? = some o) (ho2 : ops[j]? = some o2)
    (h : ∀ K' : Act → World → Prop, Shut (∀ a w, S (l.setIfInBounds i true) w → Rest P md ops Q S n (l.setIfInBounds i true) a w → K' a w) → if Region.wanted o (yielded ops a.tmps) = true then Oper.wp P o a w K' Q else K' (a.put o.dst undef) w)
    (h2 : ∀ K' : Act → World → Prop, Shut (∀ a w, S (l.setIfInBounds j true) w → Rest P md ops Q S n (l.setIfInBounds j true) a w → K' a w) → if Region.wanted o2 (yielded ops a.tmps) = true then Oper.wp P o2 a w K' Q else K' (a.put o2.dst undef) w) : Rest P md ops Q S (n + 1) l a w := by
  refine ⟨fun e => (by rw [hr] at e; cases e), fun q hq => ?_⟩
  rw [hr] at hq
  rcases List.mem_cons.1 hq with rfl | hq
  · exact wpOp_step ho (fun K' hK => h K' (fun a w h1 h2 => hK a w ⟨h1, h2⟩))
  · obtain rfl := List.mem_singleton.1 hq
    exact wpOp_step ho2 (fun K' hK => h2 K' (fun a w h1 h2 => hK a w ⟨h1, h2⟩))
/-- Of what is asked no more is asked once number z has come up; number i is taken while none of cs has: these come up one behind the other, the first behind i. -/
theorem Rest.heldTo {P : Program} {md : Region.Mode} {ops : Array Oper} {Q : Exit → Act → World → Prop} {S' : World → Prop} {z i : Nat} {oi : Oper} {v : Value} {n : Nat} {l : Array Bool} {a : Act} {w : World} (cs : List Nat) (hi : ops[i]? = some oi) (hsel : Region.noSelect ops = true) (hf : Region.free md ops l i = true) (hr : (Region.ready md ops l).contains i = true) (hzi : z ≠ i)
    (hQ : ∀ c a w, Q (.panic c) (a.put oi.dst v) w → Q (.panic c) a w) (hz : z ∈ cs) (hl : cs.all (fun c => l.getD c true == false) = true)
    (hcs : cs.all (fun c => match ops[c]? with | some oc => oc.after.any (fun e => Region.binds md e && (e.on == i || cs.contains e.on)) | none => false) = true)
    (hs : S' w) (hy : YieldsIf P ops S' oi v a)
    (h : Rest P md ops Q (fun l w => l.getD z true = false → S' w) n (l.setIfInBounds i true) (a.put oi.dst v) w) : Rest P md ops Q (fun l w => l.getD z true = false → S' w) (n + 1) l a w := by
  have hall : ∀ {l : Array Bool}, cs.all (fun c => l.getD c true == false) = true ↔ ∀ c ∈ cs, l.getD c true = false := by
    intro l
    rw [List.all_eq_true]
    exact ⟨fun h c hc => by simpa using h c hc, fun h c hc => by simpa using h c hc⟩
  refine Rest.first (T := S') (C := fun l => ∀ c ∈ cs, l.getD c true = false) hi hsel hQ (fun l j oj hc hj hoj hji hno => ?_) (fun l w hc hw => hw (hc z hz)) (fun l w => by rw [getD_set_ne true (Ne.symm hzi)]) n l a w (Region.free_spec hi hf) (by simpa using hr) hy (hall.1 hl) (fun _ => hs) h
  have hjc : j ∉ cs := fun hm => by
    have h1 := List.all_eq_true.1 hcs j hm
    rw [hoj] at h1
    obtain ⟨k, hk, hx⟩ := Array.any_eq_true.1 h1
    rw [Bool.and_eq_true, Bool.or_eq_true, beq_iff_eq] at hx
    obtain ⟨hun, oj', hoj', hall'⟩ := mem_ready.1 hj
    rw [hoj] at hoj'
    injection hoj' with e
    subst e
    rcases hx.2 with h2 | h2
    · exact hno _ (Array.getElem_mem hk) hx.1 h2
    · have h3 := hall' _ (Array.getElem_mem hk) hx.1
      have h4 := hc _ (by simpa using h2)
      rcases Nat.lt_or_ge (oj.after[k]).on l.size with h' | h'
      · simp [h'] at h3 h4
        rw [h4] at h3
        cases h3
      · simp [Array.getElem?_eq_none h'] at h3
  intro c hcm
  have hne : j ≠ c := fun e => hjc (by rw [e]; exact hcm)
  rw [getD_set_ne true hne]
  exact hc c hcm
theorem step_app_eqR {P : Program} {ops : Array Oper} {o : Oper} {a : Act} {W : World} {Kc : Act → World → Prop} {Q : Exit → Act → World → Prop} (hw : Region.wanted o (yielded ops a.tmps) = true) (s x : Operand) (t : TypeId)
    (ho : o.op = .call { callee := .builtin .append, args := #[s, x], argTypes := #[t, t] }) (vs vx v : Value) (w1 : World) (hs : a.eval s = vs) (hx : a.eval x = vx) (hr : (Builtin.append_ #[t, t] o.type #[vs, vx]).run P W = .ok v w1) (h : Kc (a.put o.dst v) w1) :
    if Region.wanted o (yielded ops a.tmps) = true then Oper.wp P o a W Kc Q else Kc (a.put o.dst undef) W := by
  rw [if_pos hw]
  unfold Oper.wp execOp
  simp only [ho, resolve, invoke, builtin, Sem.run_bind, Sem.run_pure, Result.andThen_ok, List.map_toArray, List.map_cons, List.map_nil, hs, hx, hr]
  exact h
theorem step_app_runR {P : Program} {ops : Array Oper} {o : Oper} {a : Act} {W : World} {Kc : Act → World → Prop} {Q : Exit → Act → World → Prop} (hw : Region.wanted o (yielded ops a.tmps) = true) (s x : Operand) (t : TypeId)
    (ho : o.op = .call { callee := .builtin .append, args := #[s, x], argTypes := #[t, t] }) (vs vx : Value) (hs : a.eval s = vs) (hx : a.eval x = vx) {R : Value → World → Prop} (hr : ∀ ty, Runs P (Builtin.append_ #[t, t] ty #[vs, vx]) W R) (h : ∀ v w1, R v w1 → Kc (a.put o.dst v) w1) :
    if Region.wanted o (yielded ops a.tmps) = true then Oper.wp P o a W Kc Q else Kc (a.put o.dst undef) W := by
  obtain ⟨v, w1, hrun, hR⟩ := hr o.type
  exact step_app_eqR hw s x t ho vs vx v w1 hs hx hrun (h v w1 hR)
end Go.Proofs.Ytckjgfbfjjiikaa.K
