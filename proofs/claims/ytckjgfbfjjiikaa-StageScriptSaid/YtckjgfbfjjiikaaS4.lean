/- The stage: a chunk is put. -/
import Derived.Test.YtckjgfbfjjiikaaS3
set_option linter.unusedVariables false
set_option linter.unusedSimpArgs false
set_option maxRecDepth 100000
namespace Go.Proofs.Ytckjgfbfjjiikaa.K
open Go.RowKit Go.Proofs.YtckjgfbfjjiikaaW.PrintWords Go.Proofs.YtckjgfbfjjiikaaW.PrintLast Go.Proofs.YtckjgfbfjjiikaaW.PrintMore Go.Proofs.Ytckjgfbfjjiikaa.U Go.Proofs.Ytckjgfbfjjiikaa.T
open Go.ChangeMaps (setBlock)

/-- May it be put? -/
def okPut (M : Int → Int → List (List PairD)) (a b q : Int) : Prop := q = (M a b).length ∧ 0 ≤ a ∧ a < 6 ∧ 1 ≤ b ∧ b ≤ 3 ∧ q < 40
def putM (M : Int → Int → List (List PairD)) (a b : Int) (ps : List PairD) : Int → Int → List (List PairD) := fun x y => if x = a ∧ y = b then M a b ++ [ps] else M x y
def putK (ks : List (Int × Int)) (M : Int → Int → List (List PairD)) (a b : Int) : List (Int × Int) := if M a b = [] then ks ++ [(a, b)] else ks

theorem stPut_no (w : World) (gs : Nat) (F : Nat → Prop) (ks : List (Int × Int)) (M : Int → Int → List (List PairD)) (h : StaR w gs F ks M) (a b q : Int) (A : Option Addr) (n : Nat) (c : Nat) (hno : ¬ okPut M a b q) :
    Calls Try.prog 29 #[.pointer (some ⟨gs, 0, none⟩), .int .i64 a, .int .i64 b, .int .i64 q, .slice A n c] w fun e w' => e = .returned (.int .i64 (M a b).length) ∧ Below w.heap.size w w' := by
  obtain ⟨gk, hgk⟩ : ∃ gk, gk = w.heap.size := ⟨_, rfl⟩
  obtain ⟨w1, hw1⟩ : ∃ w1, w1 = w.alloc (.cells #[.int .i64 a, .int .i64 b] 85) := ⟨_, rfl⟩
  have hb1 := (Below.refl w.heap.size w).alloc (Nat.le_refl _) (.cells #[.int .i64 a, .int .i64 b] 85)
  rw [← hw1] at hb1
  obtain ⟨m, hm⟩ : ∃ m, m = (M a b).length := ⟨_, rfl⟩
  have hN := stNext w1 gs F ks M (h.below hb1) a b
  rw [← hm] at hN
  unfold okPut at hno
  rw [← hm] at hno
  rw [← hm]
  have HN := Aside0.mk hN
  have HB1 := Aside0.mk hb1
  have HW1 := Aside0.mk hw1
  have HGK := Aside0.mk hgk
  clear hN hm h hb1 hw1 hgk
  go_enter Try.func29, Try.ntmps29
  go_wp2_with fail
  rw [← HGK.out, ← HW1.out]
  refine HN.out.mono ?_
  rintro e w1 ⟨rfl, rfl⟩
  by_cases h1 : q = m
  · have hb : (q != (m : Int)) = false := by rw [h1]; simp
    by_cases h2 : a < 0
    · go_wp2_with fail
      go_ret
      exact ⟨rfl, HB1.out⟩
    · by_cases h3 : 6 ≤ a
      · go_wp2_with fail
        go_ret
        exact ⟨rfl, HB1.out⟩
      · by_cases h4 : b < 1
        · go_wp2_with fail
          go_ret
          exact ⟨rfl, HB1.out⟩
        · by_cases h5 : 3 < b
          · go_wp2_with fail
            go_ret
            exact ⟨rfl, HB1.out⟩
          · have h6 : 40 ≤ q := by omega
            go_wp2_with fail
            go_ret
            exact ⟨rfl, HB1.out⟩
  · have hb : (q != (m : Int)) = true := bne_iff_ne.2 h1
    go_wp2_with fail
    go_ret
    exact ⟨rfl, HB1.out⟩

/-- append(own rows, one row that stands elsewhere). -/
theorem app1_run {α : Type} {d : Kd α} {W : World} (h1 : d.sz = 1) (t ty e : TypeId) (z : Value) (bytes : Nat) (ht : Try.prog.underlying t = some (.slice e)) (hinfo : (Try.prog.info? e).map (fun i => (i.zero, i.size, i.bytes)) = some (some z, 1, bytes)) (hz : z.cells.size = 1)
    (v : Value) (xs : List α) (x : α) (u : Value) (g : Nat) (ok okp : Nat → Prop) (HO : d.R e W 0 ok v xs) (hu : W.cell? ⟨g, 0, none⟩ = some u) (hM : d.M W 0 okp x [u]) (hokp : ∀ k, okp k → ok k ∧ some k ≠ v.ownBlock) (hfresh : ∀ k, W.heap.size ≤ k → ok k) (hl : (xs.length + 1) * bytes ≤ 140737488355328) (hl2 : xs.length ≤ 1000000) :
    ∃ v1 w1, (Builtin.append_ #[t, t] ty #[v, .slice (some ⟨g, 0, none⟩) 1 1]).run Try.prog W = .ok v1 w1 ∧ d.R e w1 0 ok v1 (xs ++ [x]) ∧ W.grownBy w1 v.ownBlock ∧ (v1.ownBlock = v.ownBlock ∨ v1.ownBlock = some W.heap.size) := by
  obtain ⟨i0, hi, hzz⟩ := Option.map_eq_some_iff.1 hinfo
  simp only [Prod.mk.injEq] at hzz
  obtain ⟨hz0, hz1, hz2⟩ := hzz
  obtain ⟨hok, inner, hown, hr⟩ := HO
  rw [h1] at hown hr
  have hnc : ∀ (j : Nat) (y : Value), [u][j]? = some y → W.cell? ((⟨g, 0, none⟩ : Addr).add j) = some y := by
    intro j y hj
    cases j with
    | zero =>
      injection hj with hj
      subst hj
      rw [add_plain]
      exact hu
    | succ j => simp at hj
  have hone : ∀ y ∈ [u], y.oneCell' = true := d.K_one (d.K_of_M hM)
  obtain ⟨v1, w1, hrun, h2, hg, _, hat⟩ := run_append_own_at (P := Try.prog) W 0 t ty e i0 z 1 bytes ht hi hz0 hz1 hz2 hz (by decide) v xs.length inner hown ⟨g, 0, none⟩ 1 1 [u] rfl hnc hone (by simp only [maxLen]; omega) hl (Nat.zero_le _)
  have hne : ∀ k, some k ≠ v.ownBlock → k < W.heap.size → some k ≠ v1.ownBlock := by
    intro k hk hlt
    rcases hat with hat | hb
    · rw [hat]; exact hk
    · rw [hb]
      intro he
      injection he with he
      omega
  have step : ∀ {q : α} {c : List Value} {o : Nat → Prop}, d.M W 0 o q c → (∀ k, o k → ok k ∧ some k ≠ v.ownBlock) → d.M w1 0 (fun k => ok k ∧ some k ≠ v1.ownBlock) q c := by
    intro q c o hq ho
    have h1 := d.M_move (w1 := w1) (fun k hk => hg.block k hk.2.2.1 (ho k hk.1).2) (d.M_bound hq)
    exact d.M_mono (fun k hk => ⟨(ho k hk.1).1, hne k (ho k hk.1).2 hk.2.2.1⟩) h1
  refine ⟨v1, w1, hrun, ⟨fun k hk => ?_, inner ++ [u], by rw [List.length_append, h1]; exact h2, ?_⟩, hg, hat⟩
  · rcases hat with hat | hb
    · exact hok k (hat ▸ hk)
    · rw [hb] at hk
      injection hk with hk
      exact hfresh k (by omega)
  · rw [h1]
    have hnM : Reps (d.M W 0 okp) 1 [x] [u] := ⟨rfl, fun j p hj => by
      cases j with
      | zero =>
        injection hj with hj
        subst hj
        exact hM
      | succ j => simp at hj⟩
    exact Kd.reps_append (hr.imp_ (fun _ _ hq => step hq (fun _ hk => hk))) (hnM.imp_ (fun _ _ hq => step hq hokp))

theorem info_rows : (Try.prog.info? 45).map (fun i => (i.zero, i.size, i.bytes)) = some (some (.slice none 0 0), 1, 24) := by kernel_rfl
theorem size_setBlock (w : World) (r : Nat) (o : Obj) : (setBlock w r o).heap.size = w.heap.size := by simp [setBlock]
/-- What is put in the map's entry and behind what stands there. -/
theorem put_steps {w2 : World} {gs gr : Nat} {F : Nat → Prop} {own : Nat → Option (Int × Int)} {L : List Ent} {clock : Nat} {ks : List (Int × Int)} {M : Int → Int → List (List PairD)} (h : StaP w2 gs gr F own L clock ks M) (a b : Int) (N0 : Nat) (hF : ∀ k, F k → k < N0) (hN0 : N0 ≤ w2.heap.size)
    (ps : List PairD) (v2 : Value) (hv2 : Own kPair 80 w2 N0 v2 ps) (hlen : (M a b).length ≤ 40) :
    ∃ (v0 : Value) (s0 : Nat) (w4 : World) (v5 : Value) (w5 w6 : World) (F' : Nat → Prop), (Instr.mapEntry 81 (.map (some gr)) (.agg #[.int .i64 a, .int .i64 b])).run Try.prog (w2.alloc (.cells #[v2] 45)) = .ok (.tuple #[v0, .int .i64 s0]) w4 ∧
      (Builtin.append_ #[22, 22] 22 #[v0, .slice (some ⟨w2.heap.size, 0, none⟩) 1 1]).run Try.prog w4 = .ok v5 w5 ∧
      (Instr.entryStore 81 (.map (some gr)) (.int .i64 s0) v5).run Try.prog w5 = .ok () w6 ∧
      StaR w6 gs F' (putK ks M a b) (putM M a b ps) ∧ (∀ k, F' k → F k ∨ N0 ≤ k) ∧ Ch w2 w6 F ∧ (Ch w2 w4 (fun k => F k ∧ k ≠ gs) ∧ Ch w2 w5 (fun k => F k ∧ k ≠ gs) ∧ Ch w2 w6 (fun k => F k ∧ k ≠ gs)) := by
  -- the entry
  obtain ⟨A, B, v0, s0, clock', hL, hrun, hA, hkeys, hnd, hsts, hlt, hrow, hother⟩ : ∃ (A B : List Ent) (v0 : Value) (s0 clock' : Nat), (∀ w3, MapIs w3 gr L clock → (Instr.mapEntry 81 (.map (some gr)) (keyV a b)).run Try.prog w3 = .ok (.tuple #[v0, .int .i64 s0]) (setBlock w3 gr (mapO (A ++ ⟨a, b, v0, s0⟩ :: B) clock'))) ∧ True ∧
      (∀ e ∈ A, e.s ≠ s0) ∧ (A ++ ⟨a, b, v0, s0⟩ :: B).map (fun e => (e.a, e.b)) = putK ks M a b ∧ (putK ks M a b).Nodup ∧ ((A ++ ⟨a, b, v0, s0⟩ :: B).map (·.s)).Nodup ∧ (∀ e ∈ A ++ ⟨a, b, v0, s0⟩ :: B, e.s < clock') ∧
      Kd.R kRows 45 w2 0 (fun k => own k = some (a, b)) v0 (M a b) ∧ (∀ e, e ∈ A ∨ e ∈ B → ¬ (e.a = a ∧ e.b = b) ∧ M e.a e.b ≠ [] ∧ Kd.R kRows 45 w2 0 (fun k => own k = some (e.a, e.b)) e.v (M e.a e.b)) := by
    rcases findAt_split a b L 0 with ⟨h1, h2⟩ | ⟨A, v, s, B, h1, h2, h3⟩
    · have hnk : (a, b) ∉ ks := fun hk => by
        rw [← h.keys] at hk
        obtain ⟨e, he, hk⟩ := List.mem_map.1 hk
        simp only [Prod.mk.injEq] at hk
        exact h2 e he hk
      have hM := h.no a b hnk
      have hK : putK ks M a b = ks ++ [(a, b)] := if_pos hM
      refine ⟨L, [], nilS, clock, clock + 1, fun w3 hm => entry_new_run hm a b h2, trivial, fun e he => Nat.ne_of_lt (h.lt e he), by rw [hK, ← h.keys]; simp, ?_, ?_, ?_, by rw [hM]; exact Kd.R_nil _ _ _ _ _, ?_⟩
      · rw [hK]
        exact List.nodup_append.2 ⟨h.nd, by simp, by intro x hx y hy; rw [List.mem_singleton.1 hy]; rintro rfl; exact hnk hx⟩
      · rw [List.map_append]
        refine List.nodup_append.2 ⟨h.sts, by simp, ?_⟩
        intro x hx y hy
        obtain ⟨e, he, rfl⟩ := List.mem_map.1 hx
        have : y = clock := by simpa using hy
        rw [this]
        exact Nat.ne_of_lt (h.lt e he)
      · intro e he
        rcases List.mem_append.1 he with he | he
        · exact Nat.lt_succ_of_lt (h.lt e he)
        · rw [List.mem_singleton.1 he]
          exact Nat.lt_succ_self _
      · rintro e (he | he)
        · exact ⟨h2 e he, h.ne e he, h.rows e he⟩
        · cases he
    · subst h1
      have hk0 : (a, b) ∈ ks := by rw [← h.keys]; simp
      have hM : ¬ M a b = [] := h.ne ⟨a, b, v, s⟩ (by simp)
      have hK : putK ks M a b = ks := if_neg hM
      have hs := h.sts
      have hnd := h.nd
      rw [← h.keys] at hnd
      rw [List.map_append, List.map_cons] at hs hnd
      refine ⟨A, B, v, s, clock, fun w3 hm => entry_old_run hm h2, trivial, fun e he => ?_, by rw [hK]; exact h.keys, by rw [hK]; exact h.nd, h.sts, h.lt, h.rows ⟨a, b, v, s⟩ (by simp), ?_⟩
      · exact (List.nodup_append.1 hs).2.2 e.s (List.mem_map.2 ⟨e, he, rfl⟩) s (List.mem_cons_self ..)
      · rintro e (he | he)
        · exact ⟨h2 e he, h.ne e (by simp [he]), h.rows e (by simp [he])⟩
        · refine ⟨?_, h.ne e (by simp [he]), h.rows e (by simp [he])⟩
          rintro ⟨rfl, rfl⟩
          have hh := (List.nodup_cons.1 (List.nodup_append.1 hnd).2.1).1
          exact hh (List.mem_map.2 ⟨e, he, rfl⟩)
  obtain ⟨w3, hw3⟩ : ∃ w3, w3 = w2.alloc (.cells #[v2] 45) := ⟨_, rfl⟩
  have hb3 := (Below.refl w2.heap.size w2).alloc (Nat.le_refl _) (.cells #[v2] 45)
  have hlit : w3.heap[w2.heap.size]? = some (.cells ([v2] : List Value).toArray 45 (0, 0)) := by rw [hw3]; exact alloc_at w2 _
  rw [← hw3] at hb3
  rw [← hw3]
  have hm3 : MapIs w3 gr L clock := (hb3.block _ (h.flt _ h.fgr)).trans h.map
  have hch3 : Ch w2 w3 F := Ch.of_below hb3 F
  obtain ⟨w4, hw4⟩ : ∃ w4, w4 = setBlock w3 gr (mapO (A ++ ⟨a, b, v0, s0⟩ :: B) clock') := ⟨_, rfl⟩
  have hr4 := hL w3 hm3
  rw [← hw4] at hr4
  have hm4 : MapIs w4 gr (A ++ ⟨a, b, v0, s0⟩ :: B) clock' := by rw [hw4]; exact hm3.put _ _
  have hc34 : Ch w3 w4 (fun k => k = gr) := by rw [hw4]; exact ch_setBlock hm3
  have hch4 : Ch w2 w4 F := hch3.trans hc34 (fun k _ hk => by rw [hk]; exact h.fgr)
  have hgrlt := hF _ h.fgr
  have hsz3 : w3.heap.size = w2.heap.size + 1 := by rw [hw3]; exact World.size_alloc _ _
  have hsz4 : w4.heap.size = w2.heap.size + 1 := by rw [hw4, size_setBlock]; exact hsz3
  have hchb4 : Ch w2 w4 (fun k => k = gr) := (Ch.of_below hb3 _).trans hc34 (fun _ _ h => h)
  -- append
  have hR4 : Kd.R kRows 45 w4 0 (fun k => own k = some (a, b) ∨ N0 ≤ k) v0 (M a b) :=
    Kd.R_mono (Kd.R_step hrow (fun k hk hlt => hchb4.block k hlt (by rintro rfl; rw [h.ogr] at hk; cases hk))) (fun _ hk => .inl hk)
  have hown0 : ∀ k, v0.ownBlock = some k → own k = some (a, b) := hrow.1
  have hMps : kRows.M w4 0 (fun k => N0 ≤ k ∧ k < w2.heap.size) ps [v2] := by
    refine ⟨v2, rfl, ?_⟩
    have h0 : Kd.R kPair 80 w2 0 (fun k => N0 ≤ k ∧ k < w2.heap.size) v2 ps := Kd.R_mono (Kd.R_lower (Kd.R_bound hv2) (Nat.zero_le _)) (fun k hk => ⟨hk.2.1, hk.2.2.1⟩)
    exact Kd.R_step h0 (fun k hk hlt => hchb4.block k hlt (by omega))
  obtain ⟨v5, w5, hr5, hR5, hg5, hat5⟩ := app1_run (d := kRows) (W := w4) rfl 22 22 45 (.slice none 0 0) 24 Try.underlying22 info_rows rfl v0 (M a b) ps v2 w2.heap.size _ _ hR4 (cell_of_blk ((hc34.block _ (by rw [hsz3]; omega) (by omega)).trans hlit)) hMps
    (fun k hk => ⟨.inr hk.1, fun e => by have := hown0 k e.symm; have := hF k (h.fo k (by rw [this]; simp)); omega⟩) (fun k hk => .inr (by omega)) (by omega) (by omega)
  have hFv0 : ∀ k, v0.ownBlock = some k → F k := fun k hk => h.fo k (by rw [hown0 k hk]; simp)
  have hc45 : Ch w4 w5 (fun k => v0.ownBlock = some k) := Ch.of_grown hg5 (fun k hk => hk)
  have hch5 : Ch w2 w5 F := hch4.trans hc45 (fun k _ hk => hFv0 k hk)
  have hngr : ¬ v0.ownBlock = some gr := fun e => by have := hown0 gr e; rw [h.ogr] at this; cases this
  have hm5 : MapIs w5 gr (A ++ ⟨a, b, v0, s0⟩ :: B) clock' := hm4.ch hc45 hngr
  have hr6 := store_run hm5 hA v5
  obtain ⟨w6, hw6⟩ : ∃ w6, w6 = setBlock w5 gr (mapO (A ++ ⟨a, b, v5, s0⟩ :: B) clock') := ⟨_, rfl⟩
  rw [← hw6] at hr6
  have hm6 : MapIs w6 gr (A ++ ⟨a, b, v5, s0⟩ :: B) clock' := by rw [hw6]; exact hm5.put _ _
  have hc56 : Ch w5 w6 (fun k => k = gr) := by rw [hw6]; exact ch_setBlock hm5
  have hch6 : Ch w2 w6 F := hch5.trans hc56 (fun k _ hk => by rw [hk]; exact h.fgr)
  have hsz6 : w6.heap.size = w5.heap.size := by rw [hw6, size_setBlock]
  have hc26 : Ch w2 w6 (fun k => k = gr ∨ v0.ownBlock = some k) := ((hchb4.mono (fun _ h => .inl h) : Ch w2 w4 (fun k => k = gr ∨ v0.ownBlock = some k)).trans hc45 (fun _ _ h => .inr h)).trans hc56 (fun _ _ h => .inl h)
  have hgsr : gs ≠ gr := by
    intro e
    have hx := h.map
    have hy := h.blk
    unfold MapIs at hx
    rw [e, hx] at hy
    cases hy
  have hngs : ¬ v0.ownBlock = some gs := fun e => by have := hown0 gs e; rw [h.ogs] at this; cases this
  have hG1 : ∀ k, k = gr → F k ∧ k ≠ gs := fun k hk => by rw [hk]; exact ⟨h.fgr, fun e => hgsr e.symm⟩
  have hG2 : ∀ k, k < w2.heap.size → v0.ownBlock = some k → F k ∧ k ≠ gs := fun k _ hk => ⟨hFv0 k hk, by rintro rfl; exact hngs hk⟩
  have hlt0 : ∀ k, v0.ownBlock = some k → k < w2.heap.size := fun k hk => h.flt k (hFv0 k hk)
  refine ⟨v0, s0, w4, v5, w5, w6, fun k => F k ∨ (N0 ≤ k ∧ k < w6.heap.size), hr4, hr5, hr6, ⟨gr, fun k => if own k ≠ none then own k else if N0 ≤ k ∧ k < w6.heap.size then some (a, b) else none, A ++ ⟨a, b, v5, s0⟩ :: B, clock', ?_⟩, fun k hk => hk.imp id (fun h => h.1), hch6, ⟨hchb4.mono hG1, (hchb4.mono hG1).trans hc45 hG2, hc26.mono (fun k hk => hk.elim (hG1 k) (fun h => hG2 k (hlt0 k h) h))⟩⟩
  have hgslt := hF _ h.fgs
  have hownN : ∀ k, N0 ≤ k → own k = none := fun k hk => by
    cases hh : own k with
    | none => rfl
    | some x => have := hF k (h.fo k (by rw [hh]; simp)); omega
  have e1 : ∀ v, (A ++ ⟨a, b, v, s0⟩ :: B).map (fun e => (e.a, e.b)) = (A ++ ⟨a, b, v0, s0⟩ :: B).map (fun e => (e.a, e.b)) := fun v => by simp
  have e2 : ∀ v, (A ++ ⟨a, b, v, s0⟩ :: B).map (·.s) = (A ++ ⟨a, b, v0, s0⟩ :: B).map (·.s) := fun v => by simp
  exact {
    blk := (hc26.block _ (h.flt _ h.fgs) (by rintro (e | e); (have hx := h.map; have hy := h.blk; unfold MapIs at hx; rw [e, hx] at hy; cases hy); (have := hown0 gs e; rw [h.ogs] at this; cases this))).trans h.blk
    map := hm6
    keys := (e1 v5).trans hkeys
    nd := hnd
    sts := by rw [e2 v5]; exact hsts
    lt := fun e he => by
      rcases List.mem_append.1 he with he | he
      · exact hlt e (by simp [he])
      · rcases List.mem_cons.1 he with rfl | he
        · exact hlt ⟨a, b, v0, s0⟩ (by simp)
        · exact hlt e (by simp [he])
    ne := fun e he => by
      have hh : (e.a = a ∧ e.b = b) ∨ (e ∈ A ∨ e ∈ B) := by
        rcases List.mem_append.1 he with he | he
        · exact .inr (.inl he)
        · rcases List.mem_cons.1 he with rfl | he
          · exact .inl ⟨rfl, rfl⟩
          · exact .inr (.inr he)
      unfold putM
      rcases hh with hh | hh
      · rw [if_pos hh]; simp
      · rw [if_neg (hother e hh).1]; exact (hother e hh).2.1
    rows := fun e he => by
      have hh : e = ⟨a, b, v5, s0⟩ ∨ (e ∈ A ∨ e ∈ B) := by
        rcases List.mem_append.1 he with he | he
        · exact .inr (.inl he)
        · rcases List.mem_cons.1 he with rfl | he
          · exact .inl rfl
          · exact .inr (.inr he)
      rcases hh with rfl | hh
      · have e3 : putM M a b ps a b = M a b ++ [ps] := if_pos ⟨rfl, rfl⟩
        simp only [e3]
        have h6 : Kd.R kRows 45 w6 0 (fun k => own k = some (a, b) ∨ N0 ≤ k) v5 (M a b ++ [ps]) := Kd.R_step hR5 (fun k hk hlt => hc56.block k hlt (by rintro rfl; rcases hk with hk | hk; (rw [h.ogr] at hk; cases hk); omega))
        refine Kd.R_mono (Kd.R_bound h6) (fun k hk => ?_)
        rcases hk.1 with hk1 | hk1
        · rw [if_pos (by rw [hk1]; simp)]; exact hk1
        · rw [if_neg (by rw [hownN k hk1]; simp), if_pos ⟨hk1, hk.2.2.1⟩]
      · obtain ⟨o1, o2, o3⟩ := hother e hh
        have e3 : putM M a b ps e.a e.b = M e.a e.b := if_neg o1
        rw [e3]
        have h6 : Kd.R kRows 45 w6 0 (fun k => own k = some (e.a, e.b)) e.v (M e.a e.b) := Kd.R_step o3 (fun k hk hlt => hc26.block k hlt (by
          rintro (e4 | e4)
          · rw [e4, h.ogr] at hk; cases hk
          · rw [hown0 k e4] at hk
            injection hk with hk
            injection hk with hk1 hk2
            exact o1 ⟨hk1.symm, hk2.symm⟩))
        refine Kd.R_mono h6 (fun k hk => ?_)
        rw [if_pos (by rw [hk]; simp)]
        exact hk
    no := fun x y hxy => by
      have hne : ¬ (x = a ∧ y = b) := by
        rintro ⟨rfl, rfl⟩
        apply hxy
        rw [← hkeys]
        simp
      unfold putM
      rw [if_neg hne]
      refine h.no x y (fun hk => hxy ?_)
      unfold putK
      split
      · exact List.mem_append.2 (.inl hk)
      · exact hk
    ogs := by rw [h.ogs]; simp; omega
    ogr := by rw [h.ogr]; simp; omega
    fgs := .inl h.fgs
    fgr := .inl h.fgr
    fo := fun k hk => by
      by_cases ho : own k ≠ none
      · exact .inl (h.fo k ho)
      · rw [if_neg ho] at hk
        by_cases hn : N0 ≤ k ∧ k < w6.heap.size
        · exact .inr hn
        · rw [if_neg hn] at hk
          exact absurd rfl hk
    flt := fun k hk => by
      rcases hk with hk | hk
      · exact Nat.lt_of_lt_of_le (h.flt k hk) hch6.size
      · exact hk.2 }

theorem step_append_eq {P : Program} {ops : Array Oper} {o : Oper} {a : Act} {W : World} {Kc : Act → World → Prop} {Q : Exit → Act → World → Prop} (hw : Region.wanted o (yielded ops a.tmps) = true) (s x : Operand) (t : TypeId)
    (ho : o.op = .call { callee := .builtin .append, args := #[s, x], argTypes := #[t, t] }) (vs vx v : Value) (w1 : World) (hs : a.eval s = vs) (hx : a.eval x = vx) (hr : (Builtin.append_ #[t, t] o.type #[vs, vx]).run P W = .ok v w1) (h : Kc (a.put o.dst v) w1) :
    if Region.wanted o (yielded ops a.tmps) = true then Oper.wp P o a W Kc Q else Kc (a.put o.dst undef) W := by
  rw [if_pos hw]
  unfold Oper.wp execOp
  simp only [ho, resolve, invoke, builtin, Sem.run_bind, Sem.run_pure, Result.andThen_ok, List.map_toArray, List.map_cons, List.map_nil, hs, hx, hr]
  exact h
theorem stPut_mid (w w1 : World) (gs gr gk : Nat) (F : Nat → Prop) (own : Nat → Option (Int × Int)) (L : List Ent) (clock : Nat) (ks : List (Int × Int)) (M : Int → Int → List (List PairD)) (a b : Int) (hgk : gk = w.heap.size)
    (hkb : w1.heap[gk]? = some (.cells ([.int .i64 a, .int .i64 b] : List Value).toArray 85 (0, 0))) (hF : ∀ k, F k → k < w.heap.size) (hb1 : Below w.heap.size w w1) (h : StaP w1 gs gr F own L clock ks M) (ps : List PairD) (v2 : Value) (w2 : World)
    (hv2 : Own kPair 80 w2 w1.drew.heap.size v2 ps) (hb2 : Below w1.drew.heap.size w1.drew w2) (hlen : (M a b).length ≤ 40) :
    Aside0 (w2.cell? ⟨gs, 0, none⟩ = some (.map (some gr)) ∧ w2.cell? ⟨gk, 0, none⟩ = some (.int .i64 a) ∧ w2.cell? ⟨gk, 1, none⟩ = some (.int .i64 b)) ∧
    Aside0 ((w2.alloc (.cells #[v2] 45)).cell? ⟨gs, 0, none⟩ = some (.map (some gr)) ∧ (w2.alloc (.cells #[v2] 45)).cell? ⟨gk, 0, none⟩ = some (.int .i64 a) ∧ (w2.alloc (.cells #[v2] 45)).cell? ⟨gk, 1, none⟩ = some (.int .i64 b)) ∧
    ∃ (v0 : Value) (s0 : Nat) (w4 : World) (v5 : Value) (w5 w6 : World) (F' : Nat → Prop), (Instr.mapEntry 81 (.map (some gr)) (.agg #[.int .i64 a, .int .i64 b])).run Try.prog (w2.alloc (.cells #[v2] 45)) = .ok (.tuple #[v0, .int .i64 s0]) w4 ∧
      (Builtin.append_ #[22, 22] 22 #[v0, .slice (some ⟨w2.heap.size, 0, none⟩) 1 1]).run Try.prog w4 = .ok v5 w5 ∧
      (Instr.entryStore 81 (.map (some gr)) (.int .i64 s0) v5).run Try.prog w5 = .ok () w6 ∧
      StaR w6 gs F' (putK ks M a b) (putM M a b ps) ∧ (∀ k, F' k → F k ∨ w.heap.size ≤ k) ∧ Ch w w6 F ∧
      Aside0 (w4.cell? ⟨gs, 0, none⟩ = some (.map (some gr)) ∧ w4.cell? ⟨gk, 0, none⟩ = some (.int .i64 a) ∧ w4.cell? ⟨gk, 1, none⟩ = some (.int .i64 b)) ∧
      Aside0 (w5.cell? ⟨gs, 0, none⟩ = some (.map (some gr)) ∧ w5.cell? ⟨gk, 0, none⟩ = some (.int .i64 a) ∧ w5.cell? ⟨gk, 1, none⟩ = some (.int .i64 b)) ∧
      Aside0 (w6.cell? ⟨gs, 0, none⟩ = some (.map (some gr)) ∧ w6.cell? ⟨gk, 0, none⟩ = some (.int .i64 a) ∧ w6.cell? ⟨gk, 1, none⟩ = some (.int .i64 b)) := by
  have hb12 : Below w1.heap.size w1 w2 := (below_drew1 (Below.refl w1.heap.size w1)).trans hb2
  have h2 : StaP w2 gs gr F own L clock ks M := h.ch (Ch.of_below hb12 (fun _ => False)) (fun _ _ h => h)
  have hk2 := (hb12.block gk (blk_lt' hkb)).trans hkb
  have hsz : w.heap.size ≤ w2.heap.size := Nat.le_trans hb1.size hb12.size
  have hall : ∀ (w' : World) (S : Nat → Prop), Ch w2 w' S → (∀ k, S k → F k ∧ k ≠ gs) → Aside0 (w'.cell? ⟨gs, 0, none⟩ = some (.map (some gr)) ∧ w'.cell? ⟨gk, 0, none⟩ = some (.int .i64 a) ∧ w'.cell? ⟨gk, 1, none⟩ = some (.int .i64 b)) := fun w' S hc hS => by
    have e1 := hc.blk h2.blk (fun hs => (hS gs hs).2 rfl)
    have e2 := hc.blk hk2 (fun hs => by have := hF gk (hS gk hs).1; omega)
    exact ⟨cell_of_blk e1, cell_of_blk e2, cell_of_blk e2⟩
  obtain ⟨v0, s0, w4, v5, w5, w6, F', hr4, hr5, hr6, hSta, hF', hch, hc4, hc5, hc6⟩ := put_steps h2 a b w.heap.size hF hsz ps v2 (Own.lower hv2 hb1.size) hlen
  have hcw : Ch w w2 F := (Ch.of_below hb1 F).trans (Ch.of_below hb12 F) (fun _ _ h => h)
  exact ⟨hall w2 (fun _ => False) (Ch.refl _ _) (fun _ h => h.elim), hall _ (fun _ => False) (Ch.of_below ((Below.refl w2.heap.size w2).alloc (Nat.le_refl _) _) _) (fun _ h => h.elim), v0, s0, w4, v5, w5, w6, F', hr4, hr5, hr6, hSta, hF', hcw.trans hch (fun _ _ h => h), hall w4 _ hc4 (fun _ h => h), hall w5 _ hc5 (fun _ h => h), hall w6 _ hc6 (fun _ h => h)⟩
set_option maxHeartbeats 800000 in
theorem stPut_ok (w : World) (gs : Nat) (F : Nat → Prop) (ks : List (Int × Int)) (M : Int → Int → List (List PairD)) (h : StaR w gs F ks M) (a b q : Int) (A : Option Addr) (ps : List PairD) (c : Nat) (hC : Kd.C kPair w A ps.length ps) (hl : ps.length ≤ 1000) (hyes : okPut M a b q) :
    Calls Try.prog 29 #[.pointer (some ⟨gs, 0, none⟩), .int .i64 a, .int .i64 b, .int .i64 q, .slice A ps.length c] w fun e w' => ∃ F', e = .returned (.int .i64 ((M a b).length + 1)) ∧ StaR w' gs F' (putK ks M a b) (putM M a b ps) ∧ (∀ k, F' k → F k ∨ w.heap.size ≤ k) ∧ Ch w w' F := by
  obtain ⟨gk, hgk⟩ : ∃ gk, gk = w.heap.size := ⟨_, rfl⟩
  obtain ⟨w1, hw1⟩ : ∃ w1, w1 = w.alloc (.cells #[.int .i64 a, .int .i64 b] 85) := ⟨_, rfl⟩
  have hb1 := (Below.refl w.heap.size w).alloc (Nat.le_refl _) (.cells #[.int .i64 a, .int .i64 b] 85)
  have hkb : w1.heap[gk]? = some (.cells ([.int .i64 a, .int .i64 b] : List Value).toArray 85 (0, 0)) := by rw [hw1, hgk]; exact alloc_at w _
  rw [← hw1] at hb1
  obtain ⟨m, hm⟩ : ∃ m, m = (M a b).length := ⟨_, rfl⟩
  have hN := stNext w1 gs F ks M (h.below hb1) a b
  rw [← hm] at hN
  obtain ⟨h1, h2, h3, h4, h5, h6⟩ := hyes
  rw [← hm] at h1
  have hm40 : (M a b).length ≤ 40 := by omega
  obtain ⟨gr, own, L, clock, hP⟩ := h
  have hP1 := hP.ch (Ch.of_below hb1 (fun _ => False)) (fun _ _ h => h)
  have hcs : w1.cell? ⟨gs, 0, none⟩ = some (.map (some gr)) := cell_of_blk hP1.blk
  have hck0 : w1.cell? ⟨gk, 0, none⟩ = some (.int .i64 a) := cell_of_blk hkb
  have hck1 : w1.cell? ⟨gk, 1, none⟩ = some (.int .i64 b) := cell_of_blk hkb
  have hFk : ∀ k, F k → k < w.heap.size := hP.flt
  have HC1 := Aside0.mk (Kd.C_below hC hb1)
  have HP1 := Aside0.mk hP1
  have HFK := Aside0.mk hFk
  have HM40 := Aside0.mk hm40
  have HMM := Aside0.mk hm
  have HKB := Aside0.mk hkb
  rw [← hm]
  have HN := Aside0.mk hN
  have HB1 := Aside0.mk hb1
  have HW1 := Aside0.mk hw1
  have HGK := Aside0.mk hgk
  clear hN hm hb1 hw1 hgk hP hP1 hC hFk hm40 hkb
  go_enter Try.func29, Try.ntmps29
  go_wp2_with fail
  rw [← HGK.out, ← HW1.out]
  refine HN.out.mono ?_
  rintro e w1 ⟨rfl, rfl⟩
  have hb : (q != (m : Int)) = false := by rw [h1]; simp
  have hd0 : w1.drew.cell? ⟨gs, 0, none⟩ = some (.map (some gr)) := hcs
  have hd1 : w1.drew.cell? ⟨gk, 0, none⟩ = some (.int .i64 a) := hck0
  have hd2 : w1.drew.cell? ⟨gk, 1, none⟩ = some (.int .i64 b) := hck1
  clear hcs hck0 hck1
  go_wp2_with fail
  go_region_held3 (fun w' => w'.cell? ⟨gs, 0, none⟩ = some (.map (some gr)) ∧ w'.cell? ⟨gk, 0, none⟩ = some (.int .i64 a) ∧ w'.cell? ⟨gk, 1, none⟩ = some (.int .i64 b)) (first | exact ⟨hd0, hd1, hd2⟩ | exact HS2.out | exact HS3.out | exact HS4.out | exact HS5.out | exact HS6.out)
   (first
    | (go_at_call 58; refine (clone A c ps w1.drew (Kd.C_below HC1.out (below_drew1 (Below.refl _ _))) (by omega)).mono ?_; rintro e w2 ⟨v2, rfl, hv2, hb2⟩; obtain ⟨HS2, HS3, v0, s0, w4, v5, w5, w6, F', hr4, hr5, hr6, hSta, hF', hch, HS4, HS5, HS6⟩ := stPut_mid w w1 gs gr gk F own L clock ks M a b HGK.out HKB.out HFK.out HB1.out HP1.out ps v2 w2 hv2 hb2 HM40.out; obtain ⟨A2, c2, rfl, _, _⟩ := hv2.reads; have HSTA := Aside0.mk hSta; have HF' := Aside0.mk hF'; have HCH := Aside0.mk hch; clear hSta hF' hch hv2 hb2)
    | (refine step_append_eq rfl _ _ 22 rfl _ _ v5 w5 rfl rfl hr5 ?_))
  all_goals
    go_wp2_with fail
    go_ret
    exact ⟨_, rfl, HSTA.out, HF'.out, HCH.out⟩
end Go.Proofs.Ytckjgfbfjjiikaa.K
