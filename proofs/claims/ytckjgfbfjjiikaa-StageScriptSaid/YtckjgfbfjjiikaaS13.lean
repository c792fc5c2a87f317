/- The document's stage: Drop. -/
import Derived.Test.YtckjgfbfjjiikaaS12
set_option linter.unusedVariables false
set_option linter.unusedSimpArgs false
set_option maxRecDepth 100000
namespace Go.Proofs.Ytckjgfbfjjiikaa.K
open Go.RowKit Go.Proofs.YtckjgfbfjjiikaaW.PrintWords Go.Proofs.YtckjgfbfjjiikaaW.PrintLast Go.Proofs.YtckjgfbfjjiikaaW.PrintMore Go.Proofs.Ytckjgfbfjjiikaa.U Go.Proofs.Ytckjgfbfjjiikaa.T

theorem er_C (w : World) (z : ER) (h1 : z.v.oneCell' = true) {g : Nat} {t : TypeId} {fr : Nat × Nat} (h : w.heap[g]? = some (.cells (rawE z).toArray t fr)) : Kd.C kER w (some ⟨g, 0, none⟩) 1 [z] := by
  refine ⟨rfl, by show 1 ≤ 9223372036854775807; omega, fun _ => ⟨_, rfl, fun j y hj => ?_⟩⟩
  have hj0 : j = 0 ∧ z = y := by
    cases j with
    | zero => simpa using hj
    | succ j => simp at hj
  obtain ⟨rfl, rfl⟩ := hj0
  refine ⟨_, rfl, ⟨rfl, h1⟩, fun i u hu => ?_⟩
  rw [show 0 * kER.sz + i = i from by rw [Nat.zero_mul, Nat.zero_add]]
  exact cells_of_blk h i u hu
def restE (es : List ER) (s : Int) (k : Nat) : List ER := (es.take k).filter (fun e => e.a != s)
theorem restE_in (es : List ER) (s : Int) (k : Nat) (hk : k < es.length) (h : es[k].a = s) : restE es s (k + 1) = restE es s k := by
  unfold restE
  rw [List.take_succ_eq_append_getElem hk, List.filter_append]
  simp [h]
theorem restE_out (es : List ER) (s : Int) (k : Nat) (hk : k < es.length) (h : es[k].a ≠ s) : restE es s (k + 1) = restE es s k ++ [es[k]] := by
  unfold restE
  rw [List.take_succ_eq_append_getElem hk, List.filter_append]
  simp [h]
theorem restE_all (es : List ER) (s : Int) : restE es s es.length = es.filter (fun e => e.a != s) := by
  unfold restE
  rw [List.take_length]
section
variable {w w' : World} {gR : Nat} {P Z S : Nat → Prop} {v : Value} {es : List ER} {ks : List (Int × Int)} {M : Int → Int → List (List PairD)}
/-- The rows are others now. -/
theorem RefP.rows (p : RefP w gR P Z v es ks M) (s : Int) (v' : Value) (w3 : World) (hb : Below w.heap.size w w3) (hO : Own kER 87 w3 w.heap.size v' (es.filter (fun e => e.a != s))) (wE : World) (hE : wE = w3.setCell ⟨gR, 0, none⟩ v') :
    (∃ P', RefS wE gR P' (dropK ks s) (dropM M s) ∧ ∀ k, P' k → P k ∨ w.heap.size ≤ k) ∧ Ch w wE P := by
  have hgR := p.plt _ p.pR
  have hc3 : Ch w3 wE (fun k => k = gR) := by rw [hE]; exact (Ch.refl w3 (fun k => k = gR)).setCell _ _ rfl
  have hcE : Ch w wE (fun k => k = gR) := (Ch.of_below hb _).trans hc3 (fun _ _ h => h)
  have q := p.below hb
  have hvl := Own.lt hO
  have hvb := Own.base_ hO
  have hsz : wE.heap.size = w3.heap.size := by rw [hE]; simp [World.setCell]
  have hst : ∀ k, Z k → k < w.heap.size → wE.heap[k]? = w.heap[k]? := fun k hk hlt => hcE.block k hlt (p.pZ k hk).2
  refine ⟨⟨fun k => P k ∨ (w.heap.size ≤ k ∧ k < wE.heap.size), ⟨Z, v', es.filter (fun e => e.a != s), ?_⟩, fun k hk => ?_⟩, hcE.mono (fun k hk => by rw [hk]; exact p.pR)⟩
  · refine ⟨?_, ?_, ?_, fun e he => ?_, fun e he k h1 h2 => ?_, .inl p.pR, fun k hk => ?_, fun k hk => ⟨.inl (p.pZ k hk).1, (p.pZ k hk).2⟩, fun k hk => ?_⟩
    · rw [hE]
      have := setCell_blk (j := 0) q.blk v'
      exact this
    · exact Own.lower (hO.ch flat_ER hc3 (fun k hk e => by have := hvb k hk; omega)) (Nat.zero_le _)
    · rw [← p.keys]
      unfold dropK
      rw [List.filter_map]
      rfl
    · have hm := List.mem_filter.1 he
      have hne : e.a ≠ s := by simpa using hm.2
      obtain ⟨h1, h2, h3⟩ := p.hd e hm.1
      refine ⟨h1.ch flat_hd hcE (fun k hk hh => (p.pZ k (h2 k hk)).2 hh), h2, ?_⟩
      unfold dropM
      rw [if_neg hne]
      exact h3
    · have hm := List.mem_filter.1 he
      have hne : e.a ≠ s := by simpa using hm.2
      have hM : dropM M s e.a e.b = M e.a e.b := by unfold dropM; rw [if_neg hne]
      have h2' : k < (M e.a e.b).length := by rw [← hM]; exact h2
      have e2 : (dropM M s e.a e.b)[k] = (M e.a e.b)[k] := by simp [hM]
      rw [e2]
      exact Kd.R_step (p.ch e hm.1 k h1 h2') hst
    · have h1 := hvb k hk
      have h2 := hvl k hk
      refine ⟨.inr ⟨h1, by rw [hsz]; exact h2⟩, by omega, fun hz => ?_⟩
      have := p.plt k (p.pZ k hz).1
      omega
    · rcases hk with hk | hk
      · exact Nat.lt_of_lt_of_le (p.plt k hk) hcE.size
      · exact hk.2
  · rcases hk with hk | hk
    · exact .inl hk
    · exact .inr hk.1
set_option maxHeartbeats 1600000 in
theorem refDrop (p : RefP w gR P Z v es ks M) (hks : ks.length ≤ 1000) (s : Int) : Calls Try.prog 37 #[.pointer (some ⟨gR, 0, none⟩), .int .i64 s] w fun e w' => e = .returned (.int .i64 ((ks.length : Int) - (dropK ks s).length)) ∧ (∃ P', RefS w' gR P' (dropK ks s) (dropM M s) ∧ ∀ k, P' k → P k ∨ w.heap.size ≤ k) ∧ Ch w w' P := by
  obtain ⟨A0, c0, rfl, _, hC⟩ := p.form
  obtain ⟨m, hm⟩ : ∃ m, m = es.length := ⟨_, rfl⟩
  have hm1 : m ≤ 1000 := by rw [hm, p.len]; exact hks
  have HP := Aside0.mk p
  have HM := Aside0.mk hm
  have HKL : Aside0 (m = ks.length) := ⟨by rw [hm, p.len]⟩
  obtain ⟨R, hR⟩ : ∃ R : Int, R = (ks.length : Int) - (dropK ks s).length := ⟨_, rfl⟩
  have HR : Aside0 (R = (m : Int) - (es.filter (fun e => e.a != s)).length) := ⟨by
    rw [hR, ← HKL.out]
    congr 2
    rw [← p.keys]
    unfold dropK
    rw [List.filter_map, List.length_map]
    rfl⟩
  rw [← hR]
  have hul := Try.underlying87
  clear p hm hC hR hks
  go_enter Try.func37, Try.ntmps37
  go_wp2_with fail
  go_loopg [5, 6, 7] m (fun kq v5 v6 v7 w' => ∃ (k nd l : Nat) (A : Option Addr) (c : Nat), k + kq = m ∧ v7 = .int .i64 k ∧ v6 = .int .i64 nd ∧ v5 = .slice A l c ∧ nd + l = k ∧ Aside0 (Own kER 87 w' w.heap.size (.slice A l c) (restE es s k) ∧ l = (restE es s k).length) ∧ Aside0 (Below w.heap.size w w'))
  case atStart => exact ⟨0, 0, 0, none, 0, by omega, rfl, rfl, rfl, rfl, ⟨Own.nil _ _ _ _, rfl⟩, ⟨Below.refl _ _⟩⟩
  case round =>
    obtain ⟨k, nd, l, A, c, hk, rfl, rfl, rfl, hnl, HO, HB⟩ := hrel
    have hcv := (HP.out.below HB.out).c_v
    rw [← HM.out] at hcv
    by_cases hlt : k < m
    · have hltI : (k : Int) < m := by omega
      have hk0 : (0 : Int) ≤ (k : Int) := by omega
      have hke : k < es.length := by rw [← HM.out]; exact hlt
      have p := HP.out.below HB.out
      obtain ⟨g, rfl, f0, f1, f2, _⟩ := own_ER p.row k hke
      obtain ⟨ho, -, -⟩ := p.hd es[k] (List.getElem_mem hke)
      obtain ⟨A2, c2, hv2, -, -⟩ := ho.reads
      obtain ⟨x, hx⟩ : ∃ x, x = es[k] := ⟨_, rfl⟩
      rw [← hx] at f0 f1 f2 hv2
      obtain ⟨xa, hxa⟩ : ∃ y, y = x.a := ⟨_, rfl⟩
      rw [← hxa] at f0
      have h3 := add3 g k
      have HX := Aside0.mk hx
      have HXA := Aside0.mk hxa
      have HXV : Aside0 (x.v.oneCell' = true) := ⟨by rw [hv2]; rfl⟩
      have HKE := Aside0.mk hke
      clear p ho hv2 hx
      by_cases hs : xa = s
      · have hs' : (xa == s) = true := by rw [hs]; simp
        have HUP : Aside0 (restE es s (k + 1) = restE es s k) := ⟨restE_in es s k HKE.out (by rw [← HX.out, ← HXA.out]; exact hs)⟩
        clear hs hxa
        go_wp2_with fail
        go_roundg (m - (k + 1))
        case measure => omega
        case rel => exact ⟨k + 1, nd + 1, l, A, c, by omega, by go_num, by go_num, rfl, by omega, ⟨by rw [HUP.out]; exact HO.out⟩, HB⟩
      · have hs' : (xa == s) = false := beq_eq_false_iff_ne.2 hs
        have HUP : Aside0 (restE es s (k + 1) = restE es s k ++ [x]) := ⟨by rw [restE_out es s k HKE.out (by rw [← HX.out, ← HXA.out]; exact hs), HX.out]⟩
        have hb5 := (Below.refl wr.heap.size wr).alloc (Nat.le_refl _) (.cells #[.int .i64 xa, .int .i64 x.b, x.v] 87)
        have HO5 := Aside0.mk (HO.out.1.below hb5)
        have HB5 := Aside0.mk (below_then HB.out HB.out.size hb5)
        have HL5 : Aside0 (Kd.C kER (wr.alloc (.cells #[.int .i64 xa, .int .i64 x.b, x.v] 87)) (some ⟨wr.heap.size, 0, none⟩) 1 [x]) := ⟨er_C _ x HXV.out (g := wr.heap.size) (by rw [HXA.out]; exact alloc_at wr _)⟩
        have hbs : w.heap.size ≤ (wr.alloc (.cells #[.int .i64 xa, .int .i64 x.b, x.v] 87)).heap.size := HB5.out.size
        have HL := Aside0.mk HO.out.2
        clear hs hxa hb5
        go_wp2_with (at_builtin; refine wpList_app_own flat_ER w.heap.size rfl _ _ 42 87 _ 40 rfl Try.underlying42 info_ER rfl (by decide) (by decide) (.slice A l c) (restE es s k) [x] (some ⟨wr.heap.size, 0, none⟩) 1 1 rfl rfl HO5.out rfl HL5.out hbs (by rw [← HL.out]; show (l + 1) * 40 ≤ 140737488355328; omega) ?_; intro v4 w4 hv4 hg4 hat4; rw [← HUP.out] at hv4; obtain ⟨A4, c4, rfl, _, _⟩ := hv4.reads; rw [show (restE es s (k + 1)).length = l + 1 from (by rw [HUP.out, List.length_append, ← HL.out]; rfl)] at hv4 ⊢; have HV4 := Aside0.mk hv4; have HB4 := Aside0.mk (Below.ch HB5.out (Ch.of_grown (S := fun j => (Value.slice A l c).ownBlock = some j) hg4 (fun j hj => hj)) hbs (fun j hj => HO5.out.base_ j hj)); clear hv4 hg4 hat4)
        go_roundg (m - (k + 1))
        case measure => omega
        case rel => exact ⟨k + 1, nd, l + 1, A4, c4, by omega, by go_num, rfl, rfl, by omega, ⟨HV4.out, by rw [HUP.out, List.length_append, ← HL.out]; rfl⟩, HB4⟩
    · obtain rfl : m = k := by omega
      have hltI : ¬ (m : Int) < m := by omega
      have hRR : R = (nd : Int) := by
        rw [HR.out, ← restE_all, ← HM.out, ← HO.out.2]
        omega
      subst hRR
      have hfz : wr.frozen? ⟨gR, 0, none⟩ = false := frozen_of_blk (HP.out.below HB.out).blk
      have HEND : Aside0 (∀ wE, wE = wr.setCell ⟨gR, 0, none⟩ (.slice A l c) → (∃ P', RefS wE gR P' (dropK ks s) (dropM M s) ∧ ∀ k, P' k → P k ∨ w.heap.size ≤ k) ∧ Ch w wE P) := ⟨fun wE hE => HP.out.rows s (.slice A l c) wr HB.out (by rw [← restE_all, ← HM.out]; exact HO.out.1) wE hE⟩
      go_wp2_with fail
      go_ret
      exact ⟨rfl, HEND.out _ rfl⟩
end
end Go.Proofs.Ytckjgfbfjjiikaa.K
