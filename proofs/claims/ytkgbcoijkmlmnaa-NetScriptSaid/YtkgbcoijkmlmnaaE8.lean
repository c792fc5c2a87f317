/- An element is taken out of a row of letters. -/
import Derived.Test.YtkgbcoijkmlmnaaE7
import Derived.Deep.RegionHeldLaw
set_option linter.unusedVariables false
set_option linter.unusedSimpArgs false
set_option maxRecDepth 100000
namespace Go.Proofs.Ytkgbcoijkmlmnaa.K
open Go.RowKit Go.Proofs.YtkgbcoijkmlmnaaW.PrintWords Go.Proofs.YtkgbcoijkmlmnaaW.PrintLast Go.Proofs.YtkgbcoijkmlmnaaW.PrintMore Go.Proofs.Ytkgbcoijkmlmnaa.U Go.Proofs.Ytkgbcoijkmlmnaa.T

theorem sliceB_run (P : Program) (w : World) (n y : Nat) (h : n ≤ y) (code : BoundsCode) : (Instr.sliceBound (.int .i64 (n : Int)) y code).run P w = .ok n w := by
  unfold Instr.sliceBound
  have e : (asIntOf (.int .i64 (n : Int))).run P w = .ok (.i64, (n : Int)) w := rfl
  simp only [Sem.run_bind, e, Result.andThen_ok]
  rw [if_pos ⟨by omega, by omega⟩, Int.toNat_natCast]
  rfl
theorem sz_let (w : World) : (sizeOf 36).run Try.prog w = .ok 12 w := by rfl
theorem slL_front (w : World) (A : Option Addr) (n c d : Nat) (h2 : d ≤ c) : (Instr.slice 28 (.slice A n c) none (some (.int .i64 (d : Int))) none).run Try.prog w = .ok (.slice A d c) w := by
  unfold Instr.slice Instr.sliceBounds
  simp only [Sem.run_bind, run_underlying Try.underlying28, Result.andThen_ok, Sem.run_pure, if_true, sliceB_run Try.prog w d c h2, sz_let, Nat.sub_zero]
  cases A with
  | none => split <;> rfl
  | some a => cases a; split <;> rfl
theorem slL_back (w : World) (A : Option Addr) (n c d : Nat) (h1 : d ≤ n) : (Instr.slice 28 (.slice A n c) (some (.int .i64 (d : Int))) none none).run Try.prog w = .ok (.slice (if c = d then A else A.map (fun x => x.add (d * 12))) (n - d) (c - d)) w := by
  unfold Instr.slice Instr.sliceBounds
  simp only [Sem.run_bind, run_underlying Try.underlying28, Result.andThen_ok, Sem.run_pure, Option.isSome_none, Bool.false_eq_true, if_false, sliceB_run Try.prog w d n h1, sz_let]
theorem slL_mid (w : World) (A : Option Addr) (n c l h : Nat) (h1 : l ≤ h) (h2 : h ≤ c) : (Instr.slice 28 (.slice A n c) (some (.int .i64 (l : Int))) (some (.int .i64 (h : Int))) none).run Try.prog w = .ok (.slice (if c = l then A else A.map (fun x => x.add (l * 12))) (h - l) (c - l)) w := by
  unfold Instr.slice Instr.sliceBounds
  simp only [Sem.run_bind, run_underlying Try.underlying28, Result.andThen_ok, Sem.run_pure, Option.isSome_none, Bool.false_eq_true, if_false, if_true, sliceB_run Try.prog w h c h2, sliceB_run Try.prog w l h h1, sz_let]
theorem slL_full (w : World) (A : Option Addr) (n c l h m : Nat) (h1 : l ≤ h) (h2 : h ≤ m) (h3 : m ≤ c) : (Instr.slice 28 (.slice A n c) (some (.int .i64 (l : Int))) (some (.int .i64 (h : Int))) (some (.int .i64 (m : Int)))).run Try.prog w = .ok (.slice (if m = l then A else A.map (fun x => x.add (l * 12))) (h - l) (m - l)) w := by
  unfold Instr.slice Instr.sliceBounds
  simp only [Sem.run_bind, run_underlying Try.underlying28, Result.andThen_ok, Sem.run_pure, Option.isSome_some, if_true, sliceB_run Try.prog w m c h3, sliceB_run Try.prog w h m h2, sliceB_run Try.prog w l h h1, sz_let]
/-- What stands behind a row's elements is written. -/
theorem R_tail {α : Type} {d : Kd α} {e : TypeId} {w : World} {base : Nat} {ok : Nat → Prop} {g n c : Nat} {xs : List α} (h : Kd.R d e w base ok (.slice (some ⟨g, 0, none⟩) n c) xs) (o : Nat) (cs : List Value) (ho : n * d.sz ≤ o) (hc : o + cs.length ≤ c * d.sz) :
    Kd.R d e (w.setCells g o cs) base ok (.slice (some ⟨g, 0, none⟩) n c) xs ∧ Ch w (w.setCells g o cs) (fun k => k = g) := by
  obtain ⟨hok, inner, ⟨hl, hown⟩, hr⟩ := h
  have hch : Ch w (w.setCells g o cs) (fun k => k = g) := by
    obtain ⟨a, b, c', d'⟩ := setCells_same g cs o w
    exact ⟨a, b, c', by rw [d']; exact Nat.le_refl _, fun k _ hk => setCells_far cs o k hk⟩
  refine ⟨⟨hok, inner, ⟨hl, ?_⟩, ?_⟩, hch⟩
  · rcases hown with ⟨hv, _⟩ | ⟨g', cap, cur, hv, hb, hh, hn, hm, hcs, ht⟩
    · cases hv
    · injection hv with ha hnn hcc
      injection ha with ha
      injection ha with hg
      subst hg; subst hcc
      obtain ⟨cur', h3, h4, h5⟩ := setCells_row cs o w cur hh (by rw [hcs]; exact hc)
      refine .inr ⟨g, c, cur', by rw [hnn], hb, h3, hn, hm, by rw [h4, hcs], ?_⟩
      have ho' : xs.length * d.sz ≤ o := by rw [← hnn]; exact ho
      have hc' : xs.length * d.sz ≤ c * d.sz := Nat.mul_le_mul_right d.sz hn
      have hlen : xs.length * d.sz ≤ (cur.toList.take o).length := by
        have e : cur.toList.length = c * d.sz := by simpa using hcs
        rw [List.length_take, e]
        exact Nat.le_min.2 ⟨ho', hc'⟩
      have e2 : cur'.toList.take (xs.length * d.sz) = cur.toList.take (xs.length * d.sz) := by
        rw [h5, List.append_assoc, List.take_append_of_le_length hlen, List.take_take, Nat.min_eq_left ho']
      exact e2.trans ht
  · exact hr.imp_ (fun x q hq => Kd.M_step hq (fun k hk hlt => hch.block k hlt (fun e => hk.2 (by rw [e]; rfl))))
theorem clear_let (w : World) (ty : TypeId) (g o c : Nat) (hc : ∀ j, j < 12 → (w.cell? ⟨g, o + j, none⟩).isSome = true) (hf : ∀ j, j < 12 → w.frozen? ⟨g, o + j, none⟩ = false) :
    (Builtin.clear_ #[28] ty #[.slice (some ⟨g, o, none⟩) 1 c]).run Try.prog w = .ok (.tuple #[]) (w.setCells g o zeroL) := by
  have hst := run_storeCells_cells (P := Try.prog) g o zeroL 0 w hc hf (by decide)
  simp only [Nat.add_zero] at hst
  have hv : (zeroValue 36).run Try.prog w = .ok (.agg zeroL.toArray) w := by rfl
  have hzc : (Builtin.zeroCells (Value.agg zeroL.toArray).cells 1).toList = zeroL := by kernel_rfl
  simp [Builtin.clear_, run_underlying Try.underlying28, hv, hzc, hst]
theorem step_append_eq {P : Program} {ops : Array Oper} {o : Oper} {a : Act} {W : World} {Kc : Act → World → Prop} {Q : Exit → Act → World → Prop} (hw : Region.wanted o (yielded ops a.tmps) = true) (s x : Operand) (t : TypeId)
    (ho : o.op = .call { callee := .builtin .append, args := #[s, x], argTypes := #[t, t] }) (vs vx v : Value) (w1 : World) (hs : a.eval s = vs) (hx : a.eval x = vx) (hr : (Builtin.append_ #[t, t] o.type #[vs, vx]).run P W = .ok v w1) (h : Kc (a.put o.dst v) w1) :
    if Region.wanted o (yielded ops a.tmps) = true then Oper.wp P o a W Kc Q else Kc (a.put o.dst undef) W := by
  rw [if_pos hw]
  unfold Oper.wp execOp
  simp only [ho, resolve, invoke, builtin, Sem.run_bind, Sem.run_pure, Result.andThen_ok, List.map_toArray, List.map_cons, List.map_nil, hs, hx, hr]
  exact h
set_option maxHeartbeats 3200000 in
theorem delLet (w : World) (g n c i : Nat) (ok : Nat → Prop) (ls : List LetD) (h : Kd.R kLet 36 w 0 ok (.slice (some ⟨g, 0, none⟩) n c) ls) (hi : i < n) :
    Calls Try.prog 45 #[.slice (some ⟨g, 0, none⟩) n c, .int .i64 (i : Int), .int .i64 ((i : Int) + 1)] w fun e w' => e = .returned (.slice (some ⟨g, 0, none⟩) (n - 1) c) ∧ Kd.R kLet 36 w' 0 ok (.slice (some ⟨g, 0, none⟩) (n - 1) c) (ls.eraseIdx i) ∧ Ch w w' (fun k => k = g) := by
  obtain ⟨hn, hnc, hmax⟩ : ls.length = n ∧ n ≤ c ∧ c ≤ maxLen := by
    obtain ⟨_, inner, ⟨_, ho⟩, _⟩ := h
    rcases ho with ⟨hv, _⟩ | ⟨g', cap, cur, hv, _, _, h1, h2, _⟩
    · cases hv
    · injection hv with _ h3 h4
      subst h4
      exact ⟨h3.symm, by omega, h2⟩
  have hmx : maxLen = 9223372036854775807 := rfl
  have hd := Kd.R_below h (below_drew w)
  obtain ⟨A3, hA3⟩ : ∃ A, A = (if c = i + 1 then (some ⟨g, 0, none⟩ : Option Addr) else (some (⟨g, 0, none⟩ : Addr)).map (fun x => x.add ((i + 1) * 12))) := ⟨_, rfl⟩
  obtain ⟨w1, hrun, h1, hg1⟩ := Kd.R_delete_run (P := Try.prog) kLet 0 28 28 36 _ Try.underlying28 (by rfl) (by rfl) hd hi hA3 (c - (i + 1))
  obtain ⟨m, hm⟩ : ∃ m, m = n - 1 := ⟨_, rfl⟩
  rw [← hm] at hrun h1 ⊢
  obtain ⟨cur, hcur, hcs⟩ : ∃ cur : Array Value, w1.heap[g]? = some (.cells cur 36 (0, 0)) ∧ cur.size = c * 12 := by
    obtain ⟨_, inner, ⟨_, ho⟩, _⟩ := h1
    rcases ho with ⟨hv, _⟩ | ⟨g', cap, cur, hv, _, hh, _, _, hcs, _⟩
    · cases hv
    · injection hv with h3 _ h4
      injection h3 with h3
      injection h3 with h3
      subst h3; subst h4
      exact ⟨cur, hh, hcs⟩
  obtain ⟨w2, hw2⟩ : ∃ w2, w2 = w1.setCells g (m * 12) zeroL := ⟨_, rfl⟩
  have hcl : ∀ ty, (Builtin.clear_ #[28] ty #[.slice (some ⟨g, m * 12, none⟩) 1 (c - m)]).run Try.prog w1 = .ok (.tuple #[]) w2 := fun ty => by
    rw [hw2]
    exact clear_let w1 ty g (m * 12) _ (fun j hj => by
      rw [cell_of_row _ _ _ _ _ _ hcur, Array.getElem?_eq_getElem (by omega)]
      rfl) (fun j hj => frozen_of_blk hcur)
  have hT := R_tail h1 (m * 12) zeroL (Nat.le_refl _) (by show m * 12 + 12 ≤ c * 12; omega)
  rw [← hw2] at hT
  have hw1 : Ch w w1 (fun k => k = g) := (Ch.of_below (below_drew w) _).trans (Ch.of_grown hg1 (fun k hk => by injection hk with hk; exact hk.symm)) (fun _ _ h => h)
  have HEND := Aside0.mk (And.intro hT.1 (hw1.trans hT.2 (fun _ _ h => h)))
  have e1 : ((i : Int) + 1) = ((i + 1 : Nat) : Int) := by omega
  obtain ⟨X1, hX1⟩ : ∃ X1 : Option Addr, X1 = (if n = i then (some ⟨g, 0, none⟩ : Option Addr) else (some (⟨g, 0, none⟩ : Addr)).map (fun x => x.add (i * 12))) := ⟨_, rfl⟩
  have hs1 : ∀ w, (Instr.slice 28 (.slice (some ⟨g, 0, none⟩) n c) (some (.int .i64 (i : Int))) (some (.int .i64 ((i : Int) + 1))) (some (.int .i64 (n : Int)))).run Try.prog w = .ok (.slice X1 (i + 1 - i) (n - i)) w := fun w => by
    rw [e1, hX1]
    exact slL_full w _ n c i (i + 1) n (by omega) (by omega) hnc
  have hs2 : ∀ w, (Instr.slice 28 (.slice (some ⟨g, 0, none⟩) n c) none (some (.int .i64 (i : Int))) none).run Try.prog w = .ok (.slice (some ⟨g, 0, none⟩) i c) w := fun w => slL_front w _ n c i (by omega)
  have hs3 : ∀ w, (Instr.slice 28 (.slice (some ⟨g, 0, none⟩) n c) (some (.int .i64 ((i : Int) + 1))) none none).run Try.prog w = .ok (.slice A3 (n - (i + 1)) (c - (i + 1))) w := fun w => by
    rw [e1, hA3]
    exact slL_back w _ n c (i + 1) (by omega)
  have hs4 : ∀ w, (Instr.slice 28 (.slice (some ⟨g, 0, none⟩) m c) (some (.int .i64 (m : Int))) (some (.int .i64 (n : Int))) none).run Try.prog w = .ok (.slice (some ⟨g, m * 12, none⟩) 1 (c - m)) w := fun w => by
    have := slL_mid w (some ⟨g, 0, none⟩) m c m n (by omega) hnc
    rw [if_neg (by omega), show n - m = 1 from by omega, Option.map_some, add_plain] at this
    exact this
  have hne : ((i : Int) == (i : Int) + 1) = false := beq_eq_false_iff_ne.2 (by omega)
  clear hX1 hT hw1 hw2 hcur hcs h1 hg1 hd hA3 h hn hnc hmax hmx hm e1 hi
  go_enter Try.func45, Try.ntmps45
  go_wp2_with fail
  go_region_held_law (fun w' => True) (trivial) (first | (refine step_append_eq rfl _ _ 28 rfl _ _ _ w1 rfl rfl hrun ?_))
  go_wp2_with fail
  go_ret
  exact ⟨rfl, HEND.out⟩
end Go.Proofs.Ytkgbcoijkmlmnaa.K
