/- The statement StageScript. -/
import Derived.Test.YtckjgfbfjjiikaaS14
import Derived.Test.YtckjgfbfjjiikaaS7
import Derived.Test.YtckjgfbfjjiikaaKR
set_option linter.unusedVariables false
set_option linter.unusedSimpArgs false
set_option maxRecDepth 100000
namespace Go.Proofs.Ytckjgfbfjjiikaa.K
open Go.RowKit Go.Proofs.YtckjgfbfjjiikaaW.PrintWords Go.Proofs.YtckjgfbfjjiikaaW.PrintLast Go.Proofs.YtckjgfbfjjiikaaW.PrintMore Go.Proofs.Ytckjgfbfjjiikaa.U Go.Proofs.Ytckjgfbfjjiikaa.T

theorem cellsP_cut : ∀ (xs : List PairD) (i : Nat) (x : PairD), xs[i]? = some x → ((cellsP xs).drop (i * 2)).take 2 = [.string x.key, .string x.val]
  | [], i, x, h => by simp at h
  | y :: ys, 0, x, h => by
    simp at h
    subst h
    rfl
  | y :: ys, i + 1, x, h => by
    rw [show (i + 1) * 2 = i * 2 + 1 + 1 from by omega, cellsP]
    simpa using cellsP_cut ys i x (by simpa using h)
theorem lent_own {w : World} {base g : Nat} {l : List PairD} (h : LentPairs w base g l) (hl : l.length ≤ 100000000) : Own kPair 80 w base (.slice (some ⟨g, 0, none⟩) l.length (l.length + 3)) l := by
  refine ⟨fun _ _ => trivial, cellsP l, ⟨cellsP_length l, .inr ⟨g, l.length + 3, _, rfl, h.1, h.2, by omega, by unfold maxLen; omega, ?_, ?_⟩⟩, ⟨cellsP_length l, fun i x hi => ?_⟩⟩
  · show (cellsP (l ++ List.replicate 3 lentP)).length = (l.length + 3) * 2
    rw [cellsP_length, List.length_append, List.length_replicate]
  · show List.take (l.length * 2) (cellsP (l ++ List.replicate 3 lentP)) = cellsP l
    rw [cellsP_append, ← cellsP_length l, List.take_left]
  · show kPair.M w base _ x (((cellsP l).drop (i * 2)).take 2)
    rw [cellsP_cut l i x hi]
    exact kPair_mkM _ _ _ _
/-- The program's stage beside the document's. -/
structure Tw (W w : World) (gs gR : Nat) (P : Nat → Prop) (ks : List (Int × Int)) (M : Int → Int → List (List PairD)) : Prop where
  sta : Sta w gs W.heap.size P ks M
  ref : RefS w gR P ks M
  ok : MOk ks M
  low : Below W.heap.size W w
  ge : ∀ k, P k → W.heap.size ≤ k
section
variable {W w w' : World} {gs gR : Nat} {P : Nat → Prop} {ks : List (Int × Int)} {M : Int → Int → List (List PairD)}
theorem Tw.next (h : Tw W w gs gR P ks M) (hb : Below w.heap.size w w') : Tw W w' gs gR P ks M := ⟨h.sta.below hb, h.ref.below hb, h.ok, below_then h.low h.low.size hb, h.ge⟩
theorem RefS.plt (h : RefS w gR P ks M) (k : Nat) (hk : P k) : k < w.heap.size := by
  obtain ⟨Z, v, es, p⟩ := h
  exact p.plt k hk
/-- The program's stage is dealt with, then the document's. -/
theorem Tw.both {w1 w2 : World} {P' : Nat → Prop} {ks' : List (Int × Int)} {M' : Int → Int → List (List PairD)} (h : Tw W w gs gR P ks M) (ok : MOk ks' M') (h1 : Sta w1 gs W.heap.size P ks' M') (hc1 : Ch w w1 (fun k => W.heap.size ≤ k ∧ ¬ P k)) (h2 : RefS w2 gR P' ks' M') (hP : ∀ k, P' k → P k ∨ w1.heap.size ≤ k) (hc2 : Ch w1 w2 P) : Tw W w2 gs gR P' ks' M' := by
  refine ⟨Sta.ch h1 hc2 (fun k hk _ => .inl hk) hP, h2, ok, Below.ch (Below.ch h.low hc1 h.low.size (fun k hk => hk.1)) hc2 (Nat.le_trans h.low.size hc1.size) (fun k hk => h.ge k hk), fun k hk => ?_⟩
  rcases hP k hk with h3 | h3
  · exact h.ge k h3
  · exact Nat.le_trans (Nat.le_trans h.low.size hc1.size) h3
/-- Another block is written over: one that the program's stage may hold no more. -/
theorem Tw.gone {g : Nat} (h : Tw W w gs gR P ks M) (hs : Sta w gs W.heap.size (fun k => P k ∨ k = g) ks M) (hc : Ch w w' (fun k => k = g)) (hP : ∀ k, P k → k ≠ g) (hg : W.heap.size ≤ g) : Tw W w' gs gR P ks M := ⟨Sta.ch hs hc (fun k hk _ => .inl (.inr hk)) (fun k hk => .inl (.inl hk)), h.ref.stay hc hP, h.ok, Below.ch h.low hc h.low.size (fun k hk => by rw [hk]; exact hg), h.ge⟩
theorem Tw.count (h : Tw W w gs gR P ks M) : ∃ A c, w.cell? ⟨gR, 0, none⟩ = some (.slice A ks.length c) := by
  obtain ⟨Z, v, es, p⟩ := h.ref
  obtain ⟨A, c, hv, _, _⟩ := p.form
  exact ⟨A, c, by rw [p.c_v, hv, p.len]⟩
theorem Tw.refNext (h : Tw W w gs gR P ks M) (a b : Int) : Calls Try.prog 40 #[.pointer (some ⟨gR, 0, none⟩), .int .i64 a, .int .i64 b] w fun e w' => e = .returned (.int .i64 (M a b).length) ∧ w' = w := by
  obtain ⟨Z, v, es, p⟩ := h.ref
  exact K.refNext p h.ok a b
theorem Tw.staNext (h : Tw W w gs gR P ks M) (a b : Int) : Calls Try.prog 39 #[.pointer (some ⟨gs, 0, none⟩), .int .i64 a, .int .i64 b] w fun e w' => e = .returned (.int .i64 (M a b).length) ∧ w' = w := K.staNext w gs _ _ _ _ h.sta a b
theorem Tw.staCount (h : Tw W w gs gR P ks M) : Calls Try.prog 38 #[.pointer (some ⟨gs, 0, none⟩)] w fun e w' => e = .returned (.int .i64 ks.length) ∧ w' = w := K.staCount w gs _ _ _ _ h.sta
/-- A stage that nothing was put to. -/
theorem refS_new (g : Nat) (hg : w.heap[g]? = some (.cells ([.slice none 0 0] : List Value).toArray 44 (0, 0))) : RefS w g (fun k => k = g) [] (fun _ _ => []) :=
  ⟨fun _ => False, .slice none 0 0, [], ⟨hg, Own.nil _ _ _ _, rfl, fun _ h => (by cases h), fun _ h => (by cases h), rfl, fun _ h => (by cases h), fun _ h => h.elim, fun k hk => by rw [hk]; exact blk_lt' hg⟩⟩
end
set_option maxHeartbeats 3200000 in
theorem stageScript_walk (W : World) (A0 : Option Addr) (c0 : Nat) (l0 : List SActD) (hr0 : Kd.C kSAct W A0 l0.length l0) (hc0 : l0.length ≤ c0) (hg0 : ∀ x ∈ l0, GSAct x) :
    Calls Try.prog 6 #[.slice A0 l0.length c0] W fun e w' => e = .returned (.bool true) ∧ Below W.heap.size W w' := by
  have hm0 := Kd.C_max hr0
  have HR0 := Aside0.mk hr0
  have HG0 := Aside0.mk hg0
  clear hr0 hg0
  have hua := Try.underlying47
  go_enter Try.func6, Try.ntmps6
  go_wp2_with fail
  refine (great18 A0 c0 l0 100 W HR0.out HG0.out).mono ?_
  rintro e w1 ⟨⟨r, rfl, hr⟩, hb1⟩
  have HB1 := Aside0.mk hb1
  clear hb1
  cases r with
  | true =>
    clear hr
    go_wp2_with fail
    refine (awake18 w1).mono ?_
    rintro e w3 ⟨rfl, hb3⟩
    have HB3 := Aside0.mk (two_ands _ _ _ HB1.out hb3)
    clear hb3
    go_wp2_with fail
    go_ret
    exact ⟨rfl, HB3.out⟩
  | false =>
    have HL := Aside0.mk (hr rfl).2
    have hl100 := (hr rfl).1
    clear hr
    go_wp2_with fail
    refine (staNew _ (fun _ => False) (fun _ h => h.elim) W.heap.size HB1.out.size).mono ?_
    rintro e w2 ⟨gs, rfl, h2, hb2⟩
    have H2 := Aside0.mk h2
    have HB2 := Aside0.mk (two_ands _ _ _ HB1.out hb2)
    clear h2 hb2
    go_wp2_with fail
    -- LOOP
    obtain ⟨gR, hgR⟩ : ∃ g, g = w2.heap.size := ⟨_, rfl⟩
    obtain ⟨w3, hw3⟩ : ∃ x, x = w2.alloc (.cells #[.slice none 0 0] 44) := ⟨_, rfl⟩
    have H3 : Aside0 (Tw W w3 gs gR (fun k => k = gR) [] (fun _ _ => [])) := ⟨by
      have hba := (Below.refl w2.heap.size w2).alloc (Nat.le_refl _) (.cells #[.slice none 0 0] 44)
      rw [← hw3] at hba
      refine ⟨Sta.ch (S := fun _ => False) H2.out (Ch.of_below hba _) (fun _ h => h.elim) (fun k hk => .inr (by rw [hk, hgR]; exact Nat.le_refl _)), refS_new gR (by rw [hw3, hgR]; exact alloc_at w2 _), MOk.none, two_ands _ _ _ HB2.out hba, fun k hk => by rw [hk, hgR]; exact HB2.out.size⟩⟩
    go_upto_region 6 with (fail)
    rw [← hw3, ← hgR]
    clear hw3 hgR
    go_wp2_with fail
    go_loopg [5] l0.length (fun kq v5 w' => ∃ (k : Nat) (P : Nat → Prop) (ks : List (Int × Int)) (M : Int → Int → List (List PairD)), k + kq = l0.length ∧ v5 = .int .i64 k ∧ Aside0 (Tw W w' gs gR P ks M))
    case atStart => exact ⟨0, _, _, _, by omega, rfl, H3⟩
    case round =>
      clear H2 HB2 HB1 H3
      obtain ⟨k, P, ks, M, hk, rfl, H⟩ := hrel
      have HB := Aside0.mk H.out.low
      by_cases hlt : k < l0.length
      · obtain ⟨ad, A1, c1, rfl, hx0, hx1, hx2, hx3, hx4, hle, hC⟩ := at_sact HR0.out k hlt
        have hx0 := (HB.out.cell (World.block_lt_of_cell? _ _ hx0)).trans hx0
        have hx1 := (HB.out.cell (World.block_lt_of_cell? _ _ hx1)).trans hx1
        have hx2 := (HB.out.cell (World.block_lt_of_cell? _ _ hx2)).trans hx2
        have hx3 := (HB.out.cell (World.block_lt_of_cell? _ _ hx3)).trans hx3
        have hx4 := (HB.out.cell (World.block_lt_of_cell? _ _ hx4)).trans hx4
        have hpl := HL.out _ (List.getElem_mem hlt)
        obtain ⟨x, hx⟩ : ∃ x, x = l0[k] := ⟨_, rfl⟩
        rw [← hx] at hx0 hx1 hx2 hx3 hx4 hC hpl
        clear hx hle
        obtain ⟨act, sp, at', sq, ps⟩ := x
        have hpl : ps.length ≤ 20 := hpl
        obtain ⟨gx, hgx⟩ : ∃ gx, gx = wr.heap.size := ⟨_, rfl⟩
        obtain ⟨wx, hwx⟩ : ∃ wx, wx = wr.alloc (.cells #[.int .i64 act, .int .i64 sp, .int .i64 at', .int .i64 sq, .slice A1 ps.length c1] 47) := ⟨_, rfl⟩
        have hbx : wx.heap[gx]? = some (.cells ([.int .i64 act, .int .i64 sp, .int .i64 at', .int .i64 sq, .slice A1 ps.length c1] : List Value).toArray 47 (0, 0)) := by rw [hwx, hgx]; exact alloc_at wr _
        have hba := (Below.refl wr.heap.size wr).alloc (Nat.le_refl _) (.cells #[.int .i64 act, .int .i64 sp, .int .i64 at', .int .i64 sq, .slice A1 ps.length c1] 47)
        rw [← hwx] at hba
        have HX := Aside0.mk (H.out.next hba)
        have HPX : Aside0 (∀ k, P k → k ≠ gx) := ⟨fun i hi e => by have := H.out.ref.plt i hi; omega⟩
        have HGB : Aside0 (W.heap.size ≤ gx) := ⟨by rw [hgx]; exact HB.out.size⟩
        have HSX : Aside0 (Sta wx gs W.heap.size (fun k => P k ∨ k = gx) ks M) := ⟨Sta.ch (S := fun _ => False) H.out.sta (Ch.of_below hba _) (fun _ h => h.elim) (fun k hk => hk.imp id (fun h => by omega))⟩
        have HC0 := Aside0.mk hC
        have HKx := Aside0.mk hbx
        have HWX := Aside0.mk hwx.symm
        have HGX := Aside0.mk hgx.symm
        have hq0 : wx.cell? ⟨gx, 0, none⟩ = some (.int .i64 act) := cell_of_blk hbx
        have hq1 : wx.cell? ⟨gx, 1, none⟩ = some (.int .i64 sp) := cell_of_blk hbx
        have hq2 : wx.cell? ⟨gx, 2, none⟩ = some (.int .i64 at') := cell_of_blk hbx
        have hq3 : wx.cell? ⟨gx, 3, none⟩ = some (.int .i64 sq) := cell_of_blk hbx
        have hq4 : wx.cell? ⟨gx, 4, none⟩ = some (.slice A1 ps.length c1) := cell_of_blk hbx
        clear hbx hwx hgx hba hC
        go_upto_region 10 with (fail)
        rw [HWX.out, HGX.out]
        clear HWX HGX hx0 hx1 hx2 hx3 hx4
        by_cases a0 : act = 0
        · subst a0
          have HLE := lendPairs A1 c1 ps wx (Kd.C_below HC0.out HX.out.low) (by omega)
          obtain ⟨PN, hPN⟩ : ∃ r, r = putN M sp at' sq := ⟨_, rfl⟩
          have hrr : (PN == PN) = true := by simp
          have HLE := Aside0.mk HLE
          go_wp2_with fail
          refine HLE.out.mono ?_
          rintro e wl ⟨gl, rfl, hL, hbl⟩
          have hkl := (hbl.block gx (blk_lt' HKx.out)).trans HKx.out
          have HXL := Aside0.mk (HX.out.next hbl)
          have HLL := Aside0.mk hL
          have hPL : ∀ k, P k → k ≠ gl := fun i hi e => by have := HX.out.ref.plt i hi; have := hL.1; omega
          have hgxl : gx ≠ gl := fun e => by have := blk_lt' HKx.out; have := hL.1; omega
          have hSL : Sta wl gs W.heap.size (fun k => P k ∨ k = gx ∨ k = gl) ks M := Sta.ch (S := fun _ => False) HSX.out (Ch.of_below hbl _) (fun _ h => h.elim) (fun k hk => by
            rcases hk with hk | hk | hk
            · exact .inl (.inl hk)
            · exact .inl (.inr hk)
            · exact .inr (by rw [hk]; exact hL.1))
          have hlt4 : ∀ k, (P k ∨ k = gx ∨ k = gl) → k < wl.heap.size := fun i hi => by
            rcases hi with hi | hi | hi
            · exact HXL.out.ref.plt i hi
            · rw [hi]; exact blk_lt' hkl
            · rw [hi]; exact hL.lt
          have HD1 : Aside0 (∀ w', Below wl.heap.size wl w' → Calls Try.prog 29 #[.pointer (some ⟨gs, 0, none⟩), .int .i64 sp, .int .i64 at', .int .i64 sq, .slice (some ⟨gl, 0, none⟩) ps.length (ps.length + 3)] w' fun e w'' => e = .returned (.int .i64 PN) ∧ Sta w'' gs W.heap.size (fun k => P k ∨ k = gx ∨ k = gl) (putKA ks M sp at' sq) (putMA M sp at' sq ps) ∧ Ch w' w'' (fun k => W.heap.size ≤ k ∧ ¬ (P k ∨ k = gx ∨ k = gl))) := ⟨fun w' h => by rw [hPN]; exact staPut w' gs W.heap.size _ ks M (hSL.below h) (fun k hk => Nat.lt_of_lt_of_le (hlt4 k hk) h.size) (Nat.le_trans HXL.out.low.size h.size) sp at' sq _ ps _ ((HLL.out.below h).reads (by omega)) (by omega)⟩
          have HD2 : Aside0 (∀ w', RefS w' gR P ks M → Below W.heap.size W w' → Calls Try.prog 30 #[.pointer (some ⟨gR, 0, none⟩), .int .i64 sp, .int .i64 at', .int .i64 sq, .slice A1 ps.length c1] w' fun e w'' => e = .returned (.int .i64 PN) ∧ (∃ P', RefS w'' gR P' (putKA ks M sp at' sq) (putMA M sp at' sq ps) ∧ ∀ k, P' k → P k ∨ w'.heap.size ≤ k) ∧ Ch w' w'' P) := ⟨fun w' h hW => by obtain ⟨Z, v, es, p⟩ := h; rw [hPN]; exact refPut p H.out.ok sp at' sq A1 c1 ps (fun w'' hc => Kd.C_below HC0.out (Below.ch hW hc hW.size (fun k hk => H.out.ge k hk))) (by omega)⟩
          have HOK := Aside0.mk (H.out.ok.put sp at' sq ps hpl)
          have HPL := Aside0.mk hPL
          have HGL := Aside0.mk hgxl
          have HKL := Aside0.mk hkl
          clear hPN hSL hlt4 hPL hgxl hkl hL hbl hq0 hq1 hq2 hq3 hq4 HLE
          go_upto_region 14 with (fail)
          refine Rest.begin (S := fun _ w' => w'.cell? ⟨gx, 1, none⟩ = some (.int .i64 sp) ∧ w'.cell? ⟨gx, 2, none⟩ = some (.int .i64 at') ∧ w'.cell? ⟨gx, 3, none⟩ = some (.int .i64 sq) ∧ w'.cell? ⟨gx, 4, none⟩ = some (.slice A1 ps.length c1)) (by kernel_rfl) ?_
          have hbd := below_drewS wl
          have hs : (fun w' : World => w'.cell? ⟨gx, 1, none⟩ = some (.int .i64 sp) ∧ w'.cell? ⟨gx, 2, none⟩ = some (.int .i64 at') ∧ w'.cell? ⟨gx, 3, none⟩ = some (.int .i64 sq) ∧ w'.cell? ⟨gx, 4, none⟩ = some (.slice A1 ps.length c1)) wl.drew := ⟨cell_of_blk ((hbd.block gx (blk_lt' HKL.out)).trans HKL.out), cell_of_blk ((hbd.block gx (blk_lt' HKL.out)).trans HKL.out), cell_of_blk ((hbd.block gx (blk_lt' HKL.out)).trans HKL.out), cell_of_blk ((hbd.block gx (blk_lt' HKL.out)).trans HKL.out)⟩
          refine Rest.held (i := 0) (v := ?_) rfl (by kernel_rfl) (by kernel_rfl) (by kernel_rfl) (fun _ _ _ h => h) hs (Or.inl ⟨by kernel_rfl, ?_⟩) ?_
          rotate_left 1
          · (intro w hSw; (try dsimp only at hSw); go_simp; try with_reducible rfl)
          simp only [List.getElem_toArray, List.getElem_cons_succ, List.getElem_cons_zero, Act.put, List.setIfInBounds_toArray, List.set_cons_zero, List.set_cons_succ]
          refine Rest.held (i := 1) (v := ?_) rfl (by kernel_rfl) (by kernel_rfl) (by kernel_rfl) (fun _ _ _ h => h) hs (Or.inl ⟨by kernel_rfl, ?_⟩) ?_
          rotate_left 1
          · (intro w hSw; (try dsimp only at hSw); go_simp; try with_reducible rfl)
          simp only [List.getElem_toArray, List.getElem_cons_succ, List.getElem_cons_zero, Act.put, List.setIfInBounds_toArray, List.set_cons_zero, List.set_cons_succ]
          refine Rest.held (i := 2) (v := ?_) rfl (by kernel_rfl) (by kernel_rfl) (by kernel_rfl) (fun _ _ _ h => h) hs (Or.inl ⟨by kernel_rfl, ?_⟩) ?_
          rotate_left 1
          · (intro w hSw; (try dsimp only at hSw); go_simp; try with_reducible rfl)
          simp only [List.getElem_toArray, List.getElem_cons_succ, List.getElem_cons_zero, Act.put, List.setIfInBounds_toArray, List.set_cons_zero, List.set_cons_succ]
          refine Rest.held (i := 3) (v := ?_) rfl (by kernel_rfl) (by kernel_rfl) (by kernel_rfl) (fun _ _ _ h => h) hs (Or.inl ⟨by kernel_rfl, ?_⟩) ?_
          rotate_left 1
          · (intro w hSw; (try dsimp only at hSw); go_simp; try with_reducible rfl)
          simp only [List.getElem_toArray, List.getElem_cons_succ, List.getElem_cons_zero, Act.put, List.setIfInBounds_toArray, List.set_cons_zero, List.set_cons_succ]
          refine Rest.held (i := 4) (v := ?_) rfl (by kernel_rfl) (by kernel_rfl) (by kernel_rfl) (fun _ _ _ h => h) hs (Or.inl ⟨by kernel_rfl, ?_⟩) ?_
          rotate_left 1
          · (intro w hSw; (try dsimp only at hSw); go_simp; try with_reducible rfl)
          simp only [List.getElem_toArray, List.getElem_cons_succ, List.getElem_cons_zero, Act.put, List.setIfInBounds_toArray, List.set_cons_zero, List.set_cons_succ]
          refine Rest.held (i := 5) (v := ?_) rfl (by kernel_rfl) (by kernel_rfl) (by kernel_rfl) (fun _ _ _ h => h) hs (Or.inl ⟨by kernel_rfl, ?_⟩) ?_
          rotate_left 1
          · (intro w hSw; (try dsimp only at hSw); go_simp; try with_reducible rfl)
          simp only [List.getElem_toArray, List.getElem_cons_succ, List.getElem_cons_zero, Act.put, List.setIfInBounds_toArray, List.set_cons_zero, List.set_cons_succ]
          refine Rest.held (i := 6) (v := ?_) rfl (by kernel_rfl) (by kernel_rfl) (by kernel_rfl) (fun _ _ _ h => h) hs (Or.inl ⟨by kernel_rfl, ?_⟩) ?_
          rotate_left 1
          · (intro w hSw; (try dsimp only at hSw); go_simp; try with_reducible rfl)
          simp only [List.getElem_toArray, List.getElem_cons_succ, List.getElem_cons_zero, Act.put, List.setIfInBounds_toArray, List.set_cons_zero, List.set_cons_succ]
          refine Rest.held (i := 7) (v := ?_) rfl (by kernel_rfl) (by kernel_rfl) (by kernel_rfl) (fun _ _ _ h => h) hs (Or.inl ⟨by kernel_rfl, ?_⟩) ?_
          rotate_left 1
          · (intro w hSw; (try dsimp only at hSw); go_simp; try with_reducible rfl)
          simp only [List.getElem_toArray, List.getElem_cons_succ, List.getElem_cons_zero, Act.put, List.setIfInBounds_toArray, List.set_cons_zero, List.set_cons_succ]
          refine Rest.held (i := 9) (v := ?_) rfl (by kernel_rfl) (by kernel_rfl) (by kernel_rfl) (fun _ _ _ h => h) hs (Or.inl ⟨by kernel_rfl, ?_⟩) ?_
          rotate_left 1
          · (intro w hSw; (try dsimp only at hSw); go_simp; try with_reducible rfl)
          simp only [List.getElem_toArray, List.getElem_cons_succ, List.getElem_cons_zero, Act.put, List.setIfInBounds_toArray, List.set_cons_zero, List.set_cons_succ]
          refine Rest.held (i := 10) (v := ?_) rfl (by kernel_rfl) (by kernel_rfl) (by kernel_rfl) (fun _ _ _ h => h) hs (Or.inl ⟨by kernel_rfl, ?_⟩) ?_
          rotate_left 1
          · (intro w hSw; (try dsimp only at hSw); go_simp; try with_reducible rfl)
          simp only [List.getElem_toArray, List.getElem_cons_succ, List.getElem_cons_zero, Act.put, List.setIfInBounds_toArray, List.set_cons_zero, List.set_cons_succ]
          refine Rest.held (i := 11) (v := ?_) rfl (by kernel_rfl) (by kernel_rfl) (by kernel_rfl) (fun _ _ _ h => h) hs (Or.inl ⟨by kernel_rfl, ?_⟩) ?_
          rotate_left 1
          · (intro w hSw; (try dsimp only at hSw); go_simp; try with_reducible rfl)
          simp only [List.getElem_toArray, List.getElem_cons_succ, List.getElem_cons_zero, Act.put, List.setIfInBounds_toArray, List.set_cons_zero, List.set_cons_succ]
          refine Rest.held (i := 12) (v := ?_) rfl (by kernel_rfl) (by kernel_rfl) (by kernel_rfl) (fun _ _ _ h => h) hs (Or.inl ⟨by kernel_rfl, ?_⟩) ?_
          rotate_left 1
          · (intro w hSw; (try dsimp only at hSw); go_simp; try with_reducible rfl)
          simp only [List.getElem_toArray, List.getElem_cons_succ, List.getElem_cons_zero, Act.put, List.setIfInBounds_toArray, List.set_cons_zero, List.set_cons_succ]
          refine Rest.held (i := 13) (v := ?_) rfl (by kernel_rfl) (by kernel_rfl) (by kernel_rfl) (fun _ _ _ h => h) hs (Or.inl ⟨by kernel_rfl, ?_⟩) ?_
          rotate_left 1
          · (intro w hSw; (try dsimp only at hSw); go_simp; try with_reducible rfl)
          simp only [List.getElem_toArray, List.getElem_cons_succ, List.getElem_cons_zero, Act.put, List.setIfInBounds_toArray, List.set_cons_zero, List.set_cons_succ]
          refine Rest.held (i := 14) (v := ?_) rfl (by kernel_rfl) (by kernel_rfl) (by kernel_rfl) (fun _ _ _ h => h) hs (Or.inl ⟨by kernel_rfl, ?_⟩) ?_
          rotate_left 1
          · (intro w hSw; (try dsimp only at hSw); go_simp; try with_reducible rfl)
          simp only [List.getElem_toArray, List.getElem_cons_succ, List.getElem_cons_zero, Act.put, List.setIfInBounds_toArray, List.set_cons_zero, List.set_cons_succ]
          refine Rest.held (i := 15) (v := ?_) rfl (by kernel_rfl) (by kernel_rfl) (by kernel_rfl) (fun _ _ _ h => h) hs (Or.inl ⟨by kernel_rfl, ?_⟩) ?_
          rotate_left 1
          · (intro w hSw; (try dsimp only at hSw); go_simp; try with_reducible rfl)
          simp only [List.getElem_toArray, List.getElem_cons_succ, List.getElem_cons_zero, Act.put, List.setIfInBounds_toArray, List.set_cons_zero, List.set_cons_succ]
          refine Rest.held (i := 16) (v := ?_) rfl (by kernel_rfl) (by kernel_rfl) (by kernel_rfl) (fun _ _ _ h => h) hs (Or.inl ⟨by kernel_rfl, ?_⟩) ?_
          rotate_left 1
          · (intro w hSw; (try dsimp only at hSw); go_simp; try with_reducible rfl)
          simp only [List.getElem_toArray, List.getElem_cons_succ, List.getElem_cons_zero, Act.put, List.setIfInBounds_toArray, List.set_cons_zero, List.set_cons_succ]
          refine Rest.held (i := 17) (v := ?_) rfl (by kernel_rfl) (by kernel_rfl) (by kernel_rfl) (fun _ _ _ h => h) hs (Or.inl ⟨by kernel_rfl, ?_⟩) ?_
          rotate_left 1
          · (intro w hSw; (try dsimp only at hSw); go_simp; try with_reducible rfl)
          simp only [List.getElem_toArray, List.getElem_cons_succ, List.getElem_cons_zero, Act.put, List.setIfInBounds_toArray, List.set_cons_zero, List.set_cons_succ]
          refine Rest.one (i := 8) (by kernel_rfl) rfl ?_
          intro K hK
          rw [if_pos (by kernel_rfl)]
          go_simp
          go_at_call 29
          ((with_reducible refine (HD1.out _ hbd).mono ?_); rintro e wy ⟨rfl, hy1, hy2⟩)
          have hky := hy2.blk ((hbd.block gx (blk_lt' HKL.out)).trans HKL.out) (fun h => h.2 (.inr (.inl rfl)))
          have hly : LentPairs wy wx.heap.size gl ps := ⟨HLL.out.1, hy2.blk (HLL.out.below hbd).2 (fun h => h.2 (.inr (.inr rfl)))⟩
          have hry := (HXL.out.next hbd).ref.stay hy2 (fun k hk h => h.2 (.inl hk))
          have hby := Below.ch (HXL.out.next hbd).low hy2 (HXL.out.next hbd).low.size (fun k hk => hk.1)
          replace hs : (fun w' : World => w'.cell? ⟨gx, 1, none⟩ = some (.int .i64 sp) ∧ w'.cell? ⟨gx, 2, none⟩ = some (.int .i64 at') ∧ w'.cell? ⟨gx, 3, none⟩ = some (.int .i64 sq) ∧ w'.cell? ⟨gx, 4, none⟩ = some (.slice A1 ps.length c1)) wy := ⟨cell_of_blk hky, cell_of_blk hky, cell_of_blk hky, cell_of_blk hky⟩
          refine hK.out _ _ hs ?_
          clear hK K
          refine Rest.one (i := 18) (by kernel_rfl) rfl ?_
          intro K hK
          rw [if_pos (by kernel_rfl)]
          go_simp
          go_at_call 30
          ((with_reducible refine (HD2.out _ hry hby).mono ?_); rintro e wz ⟨rfl, ⟨P2, hz1, hz3⟩, hz2⟩)
          have hkz := hz2.blk hky (fun h => HPX.out _ h rfl)
          have hlz : LentPairs wz wx.heap.size gl ps := ⟨hly.1, hz2.blk hly.2 (fun h => HPL.out _ h rfl)⟩
          have hbz := Below.ch hby hz2 hby.size (fun k hk => H.out.ge k hk)
          replace hs : (fun w' : World => w'.cell? ⟨gx, 1, none⟩ = some (.int .i64 sp) ∧ w'.cell? ⟨gx, 2, none⟩ = some (.int .i64 at') ∧ w'.cell? ⟨gx, 3, none⟩ = some (.int .i64 sq) ∧ w'.cell? ⟨gx, 4, none⟩ = some (.slice A1 ps.length c1)) wz := ⟨cell_of_blk hkz, cell_of_blk hkz, cell_of_blk hkz, cell_of_blk hkz⟩
          refine hK.out _ _ hs ?_
          clear hK K
          refine Rest.held (i := 19) (v := ?_) rfl (by kernel_rfl) (by kernel_rfl) (by kernel_rfl) (fun _ _ _ h => h) hs (Or.inl ⟨by kernel_rfl, ?_⟩) ?_
          rotate_left 1
          · (intro w hSw; (try dsimp only at hSw); go_simp; try with_reducible rfl)
          simp only [List.getElem_toArray, List.getElem_cons_succ, List.getElem_cons_zero, Act.put, List.setIfInBounds_toArray, List.set_cons_zero, List.set_cons_succ]
          refine Rest.held (i := 20) (v := ?_) rfl (by kernel_rfl) (by kernel_rfl) (by kernel_rfl) (fun _ _ _ h => h) hs (Or.inl ⟨by kernel_rfl, ?_⟩) ?_
          rotate_left 1
          · (intro w hSw; (try dsimp only at hSw); go_simp; try with_reducible rfl)
          simp only [List.getElem_toArray, List.getElem_cons_succ, List.getElem_cons_zero, Act.put, List.setIfInBounds_toArray, List.set_cons_zero, List.set_cons_succ]
          refine Rest.held (i := 21) (v := ?_) rfl (by kernel_rfl) (by kernel_rfl) (by kernel_rfl) (fun _ _ _ h => h) hs (Or.inl ⟨by kernel_rfl, ?_⟩) ?_
          rotate_left 1
          · (intro w hSw; (try dsimp only at hSw); go_simp; try with_reducible rfl)
          simp only [List.getElem_toArray, List.getElem_cons_succ, List.getElem_cons_zero, Act.put, List.setIfInBounds_toArray, List.set_cons_zero, List.set_cons_succ]
          refine Rest.held (i := 22) (v := ?_) rfl (by kernel_rfl) (by kernel_rfl) (by kernel_rfl) (fun _ _ _ h => h) hs (Or.inl ⟨by kernel_rfl, ?_⟩) ?_
          rotate_left 1
          · (intro w hSw; (try dsimp only at hSw); go_simp; try with_reducible rfl)
          simp only [List.getElem_toArray, List.getElem_cons_succ, List.getElem_cons_zero, Act.put, List.setIfInBounds_toArray, List.set_cons_zero, List.set_cons_succ]
          refine Rest.held (i := 23) (v := ?_) rfl (by kernel_rfl) (by kernel_rfl) (by kernel_rfl) (fun _ _ _ h => h) hs (Or.inl ⟨by kernel_rfl, ?_⟩) ?_
          rotate_left 1
          · (intro w hSw; (try dsimp only at hSw); go_simp; try with_reducible rfl)
          simp only [List.getElem_toArray, List.getElem_cons_succ, List.getElem_cons_zero, Act.put, List.setIfInBounds_toArray, List.set_cons_zero, List.set_cons_succ]
          refine Rest.one (i := 24) (by kernel_rfl) rfl ?_
          intro K hK
          rw [if_pos (by kernel_rfl)]
          go_simp
          go_at_call 31
          ((with_reducible refine (keptPairs gl A1 c1 ps ps wz wx.heap.size hlz (Kd.C_below HC0.out hbz) (by omega) true (by simp)).mono ?_); rintro e wk ⟨rfl, hbk⟩)
          have hkk := (hbk.block gx (blk_lt' hkz)).trans hkz
          replace hs : (fun w' : World => w'.cell? ⟨gx, 1, none⟩ = some (.int .i64 sp) ∧ w'.cell? ⟨gx, 2, none⟩ = some (.int .i64 at') ∧ w'.cell? ⟨gx, 3, none⟩ = some (.int .i64 sq) ∧ w'.cell? ⟨gx, 4, none⟩ = some (.slice A1 ps.length c1)) wk := ⟨cell_of_blk hkk, cell_of_blk hkk, cell_of_blk hkk, cell_of_blk hkk⟩
          refine hK.out _ _ hs ?_
          clear hK K
          refine Rest.held (i := 25) (v := ?_) rfl (by kernel_rfl) (by kernel_rfl) (by kernel_rfl) (fun _ _ _ h => h) hs (Or.inl ⟨by kernel_rfl, ?_⟩) ?_
          rotate_left 1
          · (intro w hSw; (try dsimp only at hSw); go_simp; try with_reducible rfl)
          simp only [List.getElem_toArray, List.getElem_cons_succ, List.getElem_cons_zero, Act.put, List.setIfInBounds_toArray, List.set_cons_zero, List.set_cons_succ]
          refine Rest.held (i := 26) (v := ?_) rfl (by kernel_rfl) (by kernel_rfl) (by kernel_rfl) (fun _ _ _ h => h) hs (Or.inl ⟨by kernel_rfl, ?_⟩) ?_
          rotate_left 1
          · (intro w hSw; (try dsimp only at hSw); go_simp; try with_reducible rfl)
          simp only [List.getElem_toArray, List.getElem_cons_succ, List.getElem_cons_zero, Act.put, List.setIfInBounds_toArray, List.set_cons_zero, List.set_cons_succ]
          refine Rest.done (by kernel_rfl) ?_ _
          have hyS : Sta wy gs W.heap.size P (putKA ks M sp at' sq) (putMA M sp at' sq ps) := Sta.ch (S := fun _ => False) hy1 (Ch.refl _ _) (fun _ h => h.elim) (fun k hk => .inl (.inl hk))
          have HZ : Aside0 (Tw W wz gs gR P2 (putKA ks M sp at' sq) (putMA M sp at' sq ps)) := ⟨(HXL.out.next hbd).both HOK.out hyS (hy2.mono (fun k hk => ⟨hk.1, fun h => hk.2 (.inl h)⟩)) hz1 hz3 hz2⟩
          have HLK := Aside0.mk (hlz.below hbk)
          have HTK := Aside0.mk (HZ.out.next hbk)
          have HKK := Aside0.mk hkk
          have HSK : Aside0 (Sta wk gs W.heap.size (fun k => P2 k ∨ k = gl) (putKA ks M sp at' sq) (putMA M sp at' sq ps)) := ⟨(Sta.ch hy1 hz2 (fun k hk _ => .inl (.inl hk)) (fun k hk => by
            rcases hk with hk | hk
            · exact (hz3 k hk).imp .inl id
            · exact .inl (.inr (.inr hk)))).below hbk⟩
          have HP2 : Aside0 (∀ k, P2 k → k ≠ gl) := ⟨fun i hi e => by
            rcases hz3 i hi with h | h
            · exact HPL.out i h e
            · have := hly.lt; omega⟩
          have hwk : wx.heap.size ≤ wk.heap.size := Nat.le_trans hlz.1 (Nat.le_of_lt (hlz.below hbk).lt)
          clear hs hbd hkz hky hry hyS hz1 hz2 hz3 hy1 hy2 hkk hbk hlz hly hby hbz
          go_wp2_with fail
          refine (overPairs _ ps wx.heap.size wk (lent_own HLK.out (by omega)) hwk (by omega)).mono ?_
          rintro e w8 ⟨rfl, hg8⟩
          have hc8 := Ch.of_grown (S := fun k => k = gl) hg8 (fun k hk => (Option.some.inj hk).symm)
          have H5 : Aside0 (Tw W w8 gs gR P2 (putKA ks M sp at' sq) (putMA M sp at' sq ps)) := ⟨HTK.out.gone HSK.out hc8 HP2.out (Nat.le_trans HX.out.low.size HLK.out.1)⟩
          have HK5 := Aside0.mk (hc8.blk HKK.out HGL.out)
          clear hg8 hc8 hwk
          obtain ⟨AR, cR, hcR⟩ := H5.out.count
          obtain ⟨nk, hnk⟩ : ∃ nk, nk = (putKA ks M sp at' sq).length := ⟨_, rfl⟩
          obtain ⟨nx, hnx⟩ : ∃ nx, nx = (putMA M sp at' sq ps sp at').length := ⟨_, rfl⟩
          rw [← hnk] at hcR
          have HCT : Aside0 (∀ w', Below w8.heap.size w8 w' → Calls Try.prog 38 #[.pointer (some ⟨gs, 0, none⟩)] w' fun e w'' => e = .returned (.int .i64 nk) ∧ w'' = w') := ⟨fun w' h => by rw [hnk]; exact (H5.out.next h).staCount⟩
          have HN1 : Aside0 (∀ w', Below w8.heap.size w8 w' → Calls Try.prog 39 #[.pointer (some ⟨gs, 0, none⟩), .int .i64 sp, .int .i64 at'] w' fun e w'' => e = .returned (.int .i64 nx) ∧ w'' = w') := ⟨fun w' h => by rw [hnx]; exact (H5.out.next h).staNext sp at'⟩
          have HN2 : Aside0 (∀ w', Below w8.heap.size w8 w' → Calls Try.prog 40 #[.pointer (some ⟨gR, 0, none⟩), .int .i64 sp, .int .i64 at'] w' fun e w'' => e = .returned (.int .i64 nx) ∧ w'' = w') := ⟨fun w' h => by rw [hnx]; exact (H5.out.next h).refNext sp at'⟩
          have hn1 : ((nk : Int) != (nk : Int)) = false := by simp
          have hn2 : ((nx : Int) != (nx : Int)) = false := by simp
          have hr1 : w8.cell? ⟨gx, 1, none⟩ = some (.int .i64 sp) := cell_of_blk HK5.out
          have hr2 : w8.cell? ⟨gx, 2, none⟩ = some (.int .i64 at') := cell_of_blk HK5.out
          have HX5 := Aside0.mk (H5.out.next (pw_below_drewN (Below.refl _ w8) 1))
          clear hnk hnx
          go_wp2_with fail
          go_quiet (first | (go_at_call 38; exact (HCT.out _ (pw_below_drewN (Below.refl _ _) _)).mono (fun e w' h => ⟨h.1, _, h.2⟩)) | (go_at_call 39; exact (HN1.out _ (pw_below_drewN (Below.refl _ _) _)).mono (fun e w' h => ⟨h.1, _, h.2⟩)) | (go_at_call 40; exact (HN2.out _ (pw_below_drewN (Below.refl _ _) _)).mono (fun e w' h => ⟨h.1, _, h.2⟩)))
          go_wp2_with fail
          go_roundg (l0.length - (k + 1))
          case measure => omega
          case rel => exact ⟨k + 1, _, _, _, by omega, by go_num, ⟨H5.out.next (pw_below_drewN (Below.refl _ _) _)⟩⟩
        by_cases a1 : act = 1
        · subst a1
          have HT : ∃ (r : Bool) (Y : List PairD), Y.length ≤ 100000000 ∧ (∀ w', Below wx.heap.size wx w' → Calls Try.prog 33 #[.pointer (some ⟨gs, 0, none⟩), .int .i64 sp, .int .i64 at', .int .i64 sq] w' fun e w'' => ∃ v, e = .returned (.tuple #[v, .bool r]) ∧ Own kPair 80 w'' w'.heap.size v Y ∧ Below w'.heap.size w' w'') ∧ (∀ w', Below wx.heap.size wx w' → Calls Try.prog 34 #[.pointer (some ⟨gR, 0, none⟩), .int .i64 sp, .int .i64 at', .int .i64 sq] w' fun e w'' => ∃ v, e = .returned (.tuple #[v, .bool r]) ∧ Own kPair 80 w'' w'.heap.size v Y ∧ Below w'.heap.size w' w'') := by
            have hfl : (M sp at').flatten.length ≤ 100000000 := by have := H.out.ok.flat sp at'; omega
            by_cases hn : sq = (M sp at').length
            · refine ⟨true, (M sp at').flatten, hfl, fun w' h => ?_, fun w' h => ?_⟩
              · refine (staTake_ok w' gs _ _ _ _ (HX.out.next h).sta sp at' sq hn hfl).mono ?_
                rintro e w'' ⟨v, Y, rfl, h1, h2, h3⟩
                rw [h2.out] at h1
                exact ⟨v, rfl, h1, h3⟩
              · obtain ⟨Z, v, es, p⟩ := (HX.out.next h).ref
                rw [hn]
                refine (refTake_ok p H.out.ok sp at' hfl).mono ?_
                rintro e w'' ⟨v, Y, rfl, h1, h2, h3⟩
                rw [h2.out] at h1
                exact ⟨v, rfl, h1, h3⟩
            · refine ⟨false, [], by simp, fun w' h => ?_, fun w' h => ?_⟩
              · refine (staTake_no w' gs _ _ _ _ (HX.out.next h).sta sp at' sq hn).mono ?_
                rintro e w'' ⟨rfl, rfl⟩
                exact ⟨_, rfl, Own.nil _ _ _ _, Below.refl _ _⟩
              · obtain ⟨Z, v, es, p⟩ := (HX.out.next h).ref
                refine (refTake_no p H.out.ok sp at' sq hn).mono ?_
                rintro e w'' ⟨rfl, rfl⟩
                exact ⟨_, rfl, Own.nil _ _ _ _, Below.refl _ _⟩
          obtain ⟨r, Y, hYl, hT1, hT2⟩ := HT
          have HT1 := Aside0.mk hT1
          have HT2 := Aside0.mk hT2
          have HYL := Aside0.mk hYl
          have hrr : (r == r) = true := by simp
          clear hT1 hT2 hYl
          go_wp2_with fail
          refine (HT1.out _ (Below.refl _ _)).mono ?_
          rintro e w5 ⟨v5, rfl, hv5, hb5⟩
          have HV5 := Aside0.mk hv5
          have HB5 := Aside0.mk hb5
          obtain ⟨A5, c5, rfl, _, _⟩ := hv5.reads
          have hc1 : w5.cell? ⟨gx, 1, none⟩ = some (.int .i64 sp) := cell_of_blk ((HB5.out.block gx (blk_lt' HKx.out)).trans HKx.out)
          have hc2 : w5.cell? ⟨gx, 2, none⟩ = some (.int .i64 at') := cell_of_blk ((HB5.out.block gx (blk_lt' HKx.out)).trans HKx.out)
          have hc3 : w5.cell? ⟨gx, 3, none⟩ = some (.int .i64 sq) := cell_of_blk ((HB5.out.block gx (blk_lt' HKx.out)).trans HKx.out)
          clear hv5 hb5
          go_wp2_with fail
          refine (HT2.out _ HB5.out).mono ?_
          rintro e w6 ⟨v6, rfl, hv6, hb6⟩
          have HV6 := Aside0.mk hv6
          have HB6 := Aside0.mk hb6
          obtain ⟨A6, c6, rfl, _, _⟩ := hv6.reads
          clear hc1 hc2 hc3 hv6 hb6
          go_wp2_with fail
          refine (samePairs A5 c5 Y A6 c6 Y w6 (HV5.out.below HB6.out).is.2.2 HV6.out.is.2.2 true (by simp)).mono ?_
          rintro e w7 ⟨rfl, hb7⟩
          have HB7 := Aside0.mk (below_then HB5.out HB5.out.size (below_then HB6.out HB6.out.size hb7))
          have HV7 := Aside0.mk ((HV5.out.below HB6.out).below hb7)
          clear hb7
          go_wp2_with fail
          refine (overPairs _ Y wx.heap.size w7 HV7.out HB7.out.size HYL.out).mono ?_
          rintro e w8 ⟨rfl, hg8⟩
          have HB8 : Aside0 (Below wx.heap.size wx w8) := ⟨HB7.out.grown hg8 HB7.out.size (fun i hi => Own.base_ HV7.out i hi)⟩
          have H5 := Aside0.mk (HX.out.next HB8.out)
          have HK5 := Aside0.mk ((HB8.out.block gx (blk_lt' HKx.out)).trans HKx.out)
          clear hg8 hq0 hq1 hq2 hq3 hq4
          obtain ⟨AR, cR, hcR⟩ := H5.out.count
          obtain ⟨nk, hnk⟩ : ∃ nk, nk = (ks).length := ⟨_, rfl⟩
          obtain ⟨nx, hnx⟩ : ∃ nx, nx = (M sp at').length := ⟨_, rfl⟩
          rw [← hnk] at hcR
          have HCT : Aside0 (∀ w', Below w8.heap.size w8 w' → Calls Try.prog 38 #[.pointer (some ⟨gs, 0, none⟩)] w' fun e w'' => e = .returned (.int .i64 nk) ∧ w'' = w') := ⟨fun w' h => by rw [hnk]; exact (H5.out.next h).staCount⟩
          have HN1 : Aside0 (∀ w', Below w8.heap.size w8 w' → Calls Try.prog 39 #[.pointer (some ⟨gs, 0, none⟩), .int .i64 sp, .int .i64 at'] w' fun e w'' => e = .returned (.int .i64 nx) ∧ w'' = w') := ⟨fun w' h => by rw [hnx]; exact (H5.out.next h).staNext sp at'⟩
          have HN2 : Aside0 (∀ w', Below w8.heap.size w8 w' → Calls Try.prog 40 #[.pointer (some ⟨gR, 0, none⟩), .int .i64 sp, .int .i64 at'] w' fun e w'' => e = .returned (.int .i64 nx) ∧ w'' = w') := ⟨fun w' h => by rw [hnx]; exact (H5.out.next h).refNext sp at'⟩
          have hn1 : ((nk : Int) != (nk : Int)) = false := by simp
          have hn2 : ((nx : Int) != (nx : Int)) = false := by simp
          have hr1 : w8.cell? ⟨gx, 1, none⟩ = some (.int .i64 sp) := cell_of_blk HK5.out
          have hr2 : w8.cell? ⟨gx, 2, none⟩ = some (.int .i64 at') := cell_of_blk HK5.out
          have HX5 := Aside0.mk (H5.out.next (pw_below_drewN (Below.refl _ w8) 1))
          clear hnk hnx
          go_wp2_with fail
          go_quiet (first | (go_at_call 38; exact (HCT.out _ (pw_below_drewN (Below.refl _ _) _)).mono (fun e w' h => ⟨h.1, _, h.2⟩)) | (go_at_call 39; exact (HN1.out _ (pw_below_drewN (Below.refl _ _) _)).mono (fun e w' h => ⟨h.1, _, h.2⟩)) | (go_at_call 40; exact (HN2.out _ (pw_below_drewN (Below.refl _ _) _)).mono (fun e w' h => ⟨h.1, _, h.2⟩)))
          go_wp2_with fail
          go_roundg (l0.length - (k + 1))
          case measure => omega
          case rel => exact ⟨k + 1, _, _, _, by omega, by go_num, ⟨H5.out.next (pw_below_drewN (Below.refl _ _) _)⟩⟩
        by_cases a2 : act = 2
        · subst a2
          have b0 : ((2 : Int) == 0) = false := rfl
          obtain ⟨RR, hRR⟩ : ∃ r : Int, r = (ks.length : Int) - (dropK ks sp).length := ⟨_, rfl⟩
          have hks : ks.length ≤ 1000 := by have := H.out.ok.most; omega
          have HD1 : Aside0 (∀ w', Below wx.heap.size wx w' → Calls Try.prog 36 #[.pointer (some ⟨gs, 0, none⟩), .int .i64 sp] w' fun e w'' => e = .returned (.int .i64 RR) ∧ Sta w'' gs W.heap.size (fun k => P k ∨ k = gx) (dropK ks sp) (dropM M sp) ∧ Ch w' w'' (fun k => W.heap.size ≤ k ∧ ¬ (P k ∨ k = gx))) := ⟨fun w' h => by rw [hRR]; exact staDrop w' gs _ _ _ _ (HSX.out.below h) hks sp⟩
          have HD2 : Aside0 (∀ w', RefS w' gR P ks M → Calls Try.prog 37 #[.pointer (some ⟨gR, 0, none⟩), .int .i64 sp] w' fun e w'' => e = .returned (.int .i64 RR) ∧ (∃ P', RefS w'' gR P' (dropK ks sp) (dropM M sp) ∧ ∀ k, P' k → P k ∨ w'.heap.size ≤ k) ∧ Ch w' w'' P) := ⟨fun w' h => by obtain ⟨Z, v, es, p⟩ := h; rw [hRR]; exact K.refDrop p hks sp⟩
          have HOK := Aside0.mk (H.out.ok.drop sp)
          have hrr : (RR == RR) = true := by simp
          clear hRR hks
          go_upto_region 22 with (fail)
          refine Rest.begin (S := fun _ w' => w'.cell? ⟨gx, 1, none⟩ = some (.int .i64 sp)) (by kernel_rfl) ?_
          have hbd := below_drewS wx
          have hs : wx.drew.cell? ⟨gx, 1, none⟩ = some (.int .i64 sp) := cell_of_blk ((hbd.block gx (blk_lt' HKx.out)).trans HKx.out)
          refine Rest.held (i := 0) (v := ?_) rfl (by kernel_rfl) (by kernel_rfl) (by kernel_rfl) (fun _ _ _ h => h) hs (Or.inl ⟨by kernel_rfl, ?_⟩) ?_
          rotate_left 1
          · (intro w hSw; (try dsimp only at hSw); go_simp; try with_reducible rfl)
          simp only [List.getElem_toArray, List.getElem_cons_succ, List.getElem_cons_zero, Act.put, List.setIfInBounds_toArray, List.set_cons_zero, List.set_cons_succ]
          refine Rest.held (i := 1) (v := ?_) rfl (by kernel_rfl) (by kernel_rfl) (by kernel_rfl) (fun _ _ _ h => h) hs (Or.inl ⟨by kernel_rfl, ?_⟩) ?_
          rotate_left 1
          · (intro w hSw; (try dsimp only at hSw); go_simp; try with_reducible rfl)
          simp only [List.getElem_toArray, List.getElem_cons_succ, List.getElem_cons_zero, Act.put, List.setIfInBounds_toArray, List.set_cons_zero, List.set_cons_succ]
          refine Rest.held (i := 2) (v := ?_) rfl (by kernel_rfl) (by kernel_rfl) (by kernel_rfl) (fun _ _ _ h => h) hs (Or.inl ⟨by kernel_rfl, ?_⟩) ?_
          rotate_left 1
          · (intro w hSw; (try dsimp only at hSw); go_simp; try with_reducible rfl)
          simp only [List.getElem_toArray, List.getElem_cons_succ, List.getElem_cons_zero, Act.put, List.setIfInBounds_toArray, List.set_cons_zero, List.set_cons_succ]
          refine Rest.held (i := 4) (v := ?_) rfl (by kernel_rfl) (by kernel_rfl) (by kernel_rfl) (fun _ _ _ h => h) hs (Or.inl ⟨by kernel_rfl, ?_⟩) ?_
          rotate_left 1
          · (intro w hSw; (try dsimp only at hSw); go_simp; try with_reducible rfl)
          simp only [List.getElem_toArray, List.getElem_cons_succ, List.getElem_cons_zero, Act.put, List.setIfInBounds_toArray, List.set_cons_zero, List.set_cons_succ]
          refine Rest.held (i := 5) (v := ?_) rfl (by kernel_rfl) (by kernel_rfl) (by kernel_rfl) (fun _ _ _ h => h) hs (Or.inl ⟨by kernel_rfl, ?_⟩) ?_
          rotate_left 1
          · (intro w hSw; (try dsimp only at hSw); go_simp; try with_reducible rfl)
          simp only [List.getElem_toArray, List.getElem_cons_succ, List.getElem_cons_zero, Act.put, List.setIfInBounds_toArray, List.set_cons_zero, List.set_cons_succ]
          refine Rest.held (i := 6) (v := ?_) rfl (by kernel_rfl) (by kernel_rfl) (by kernel_rfl) (fun _ _ _ h => h) hs (Or.inl ⟨by kernel_rfl, ?_⟩) ?_
          rotate_left 1
          · (intro w hSw; (try dsimp only at hSw); go_simp; try with_reducible rfl)
          simp only [List.getElem_toArray, List.getElem_cons_succ, List.getElem_cons_zero, Act.put, List.setIfInBounds_toArray, List.set_cons_zero, List.set_cons_succ]
          refine Rest.one (i := 3) (by kernel_rfl) rfl ?_
          intro K hK
          rw [if_pos (by kernel_rfl)]
          go_simp
          go_at_call 36
          ((with_reducible refine (HD1.out _ hbd).mono ?_); rintro e wy ⟨rfl, hy1, hy2⟩)
          have hky := hy2.blk ((hbd.block gx (blk_lt' HKx.out)).trans HKx.out) (fun h => h.2 (.inr rfl))
          have hry := (HX.out.next hbd).ref.stay hy2 (fun k hk h => h.2 (.inl hk))
          replace hs : wy.cell? ⟨gx, 1, none⟩ = some (.int .i64 sp) := cell_of_blk hky
          refine hK.out _ _ hs ?_
          clear hK K
          refine Rest.one (i := 7) (by kernel_rfl) rfl ?_
          intro K hK
          rw [if_pos (by kernel_rfl)]
          go_simp
          go_at_call 37
          ((with_reducible refine (HD2.out _ hry).mono ?_); rintro e wz ⟨rfl, ⟨P2, hz1, hz3⟩, hz2⟩)
          have hkz := hz2.blk hky (fun h => HPX.out _ h rfl)
          replace hs : wz.cell? ⟨gx, 1, none⟩ = some (.int .i64 sp) := cell_of_blk hkz
          refine hK.out _ _ hs ?_
          clear hK K
          refine Rest.held (i := 8) (v := ?_) rfl (by kernel_rfl) (by kernel_rfl) (by kernel_rfl) (fun _ _ _ h => h) hs (Or.inl ⟨by kernel_rfl, ?_⟩) ?_
          rotate_left 1
          · (intro w hSw; (try dsimp only at hSw); go_simp; try with_reducible rfl)
          simp only [List.getElem_toArray, List.getElem_cons_succ, List.getElem_cons_zero, Act.put, List.setIfInBounds_toArray, List.set_cons_zero, List.set_cons_succ]
          refine Rest.held (i := 9) (v := ?_) rfl (by kernel_rfl) (by kernel_rfl) (by kernel_rfl) (fun _ _ _ h => h) hs (Or.inl ⟨by kernel_rfl, ?_⟩) ?_
          rotate_left 1
          · (intro w hSw; (try dsimp only at hSw); go_simp; try with_reducible rfl)
          simp only [List.getElem_toArray, List.getElem_cons_succ, List.getElem_cons_zero, Act.put, List.setIfInBounds_toArray, List.set_cons_zero, List.set_cons_succ]
          refine Rest.done (by kernel_rfl) ?_ _
          have hyS : Sta wy gs W.heap.size P (dropK ks sp) (dropM M sp) := Sta.ch (S := fun _ => False) hy1 (Ch.refl _ _) (fun _ h => h.elim) (fun k hk => .inl (.inl hk))
          have H5 : Aside0 (Tw W wz gs gR P2 (dropK ks sp) (dropM M sp)) := ⟨(HX.out.next hbd).both HOK.out hyS (hy2.mono (fun k hk => ⟨hk.1, fun h => hk.2 (.inl h)⟩)) hz1 hz3 hz2⟩
          have HK5 := Aside0.mk hkz
          clear hs hbd hkz hky hry hyS hz1 hz2 hz3 hy1 hy2 hq0 hq1 hq2 hq3 hq4
          obtain ⟨AR, cR, hcR⟩ := H5.out.count
          obtain ⟨nk, hnk⟩ : ∃ nk, nk = (dropK ks sp).length := ⟨_, rfl⟩
          obtain ⟨nx, hnx⟩ : ∃ nx, nx = (dropM M sp sp at').length := ⟨_, rfl⟩
          rw [← hnk] at hcR
          have HCT : Aside0 (∀ w', Below wz.heap.size wz w' → Calls Try.prog 38 #[.pointer (some ⟨gs, 0, none⟩)] w' fun e w'' => e = .returned (.int .i64 nk) ∧ w'' = w') := ⟨fun w' h => by rw [hnk]; exact (H5.out.next h).staCount⟩
          have HN1 : Aside0 (∀ w', Below wz.heap.size wz w' → Calls Try.prog 39 #[.pointer (some ⟨gs, 0, none⟩), .int .i64 sp, .int .i64 at'] w' fun e w'' => e = .returned (.int .i64 nx) ∧ w'' = w') := ⟨fun w' h => by rw [hnx]; exact (H5.out.next h).staNext sp at'⟩
          have HN2 : Aside0 (∀ w', Below wz.heap.size wz w' → Calls Try.prog 40 #[.pointer (some ⟨gR, 0, none⟩), .int .i64 sp, .int .i64 at'] w' fun e w'' => e = .returned (.int .i64 nx) ∧ w'' = w') := ⟨fun w' h => by rw [hnx]; exact (H5.out.next h).refNext sp at'⟩
          have hn1 : ((nk : Int) != (nk : Int)) = false := by simp
          have hn2 : ((nx : Int) != (nx : Int)) = false := by simp
          have hr1 : wz.cell? ⟨gx, 1, none⟩ = some (.int .i64 sp) := cell_of_blk HK5.out
          have hr2 : wz.cell? ⟨gx, 2, none⟩ = some (.int .i64 at') := cell_of_blk HK5.out
          have HX5 := Aside0.mk (H5.out.next (pw_below_drewN (Below.refl _ wz) 1))
          clear hnk hnx
          go_wp2_with fail
          go_quiet (first | (go_at_call 38; exact (HCT.out _ (pw_below_drewN (Below.refl _ _) _)).mono (fun e w' h => ⟨h.1, _, h.2⟩)) | (go_at_call 39; exact (HN1.out _ (pw_below_drewN (Below.refl _ _) _)).mono (fun e w' h => ⟨h.1, _, h.2⟩)) | (go_at_call 40; exact (HN2.out _ (pw_below_drewN (Below.refl _ _) _)).mono (fun e w' h => ⟨h.1, _, h.2⟩)))
          go_wp2_with fail
          go_roundg (l0.length - (k + 1))
          case measure => omega
          case rel => exact ⟨k + 1, _, _, _, by omega, by go_num, ⟨H5.out.next (pw_below_drewN (Below.refl _ _) _)⟩⟩
        have b0 : (act == 0) = false := by simpa using a0
        have b1 : (act == 1) = false := by simpa using a1
        have b2 : (act == 2) = false := by simpa using a2
        have H5 := HX
        have HK5 := HKx
        obtain ⟨AR, cR, hcR⟩ := H5.out.count
        obtain ⟨nk, hnk⟩ : ∃ nk, nk = (ks).length := ⟨_, rfl⟩
        obtain ⟨nx, hnx⟩ : ∃ nx, nx = (M sp at').length := ⟨_, rfl⟩
        rw [← hnk] at hcR
        have HCT : Aside0 (∀ w', Below wx.heap.size wx w' → Calls Try.prog 38 #[.pointer (some ⟨gs, 0, none⟩)] w' fun e w'' => e = .returned (.int .i64 nk) ∧ w'' = w') := ⟨fun w' h => by rw [hnk]; exact (H5.out.next h).staCount⟩
        have HN1 : Aside0 (∀ w', Below wx.heap.size wx w' → Calls Try.prog 39 #[.pointer (some ⟨gs, 0, none⟩), .int .i64 sp, .int .i64 at'] w' fun e w'' => e = .returned (.int .i64 nx) ∧ w'' = w') := ⟨fun w' h => by rw [hnx]; exact (H5.out.next h).staNext sp at'⟩
        have HN2 : Aside0 (∀ w', Below wx.heap.size wx w' → Calls Try.prog 40 #[.pointer (some ⟨gR, 0, none⟩), .int .i64 sp, .int .i64 at'] w' fun e w'' => e = .returned (.int .i64 nx) ∧ w'' = w') := ⟨fun w' h => by rw [hnx]; exact (H5.out.next h).refNext sp at'⟩
        have hn1 : ((nk : Int) != (nk : Int)) = false := by simp
        have hn2 : ((nx : Int) != (nx : Int)) = false := by simp
        have hr1 : wx.cell? ⟨gx, 1, none⟩ = some (.int .i64 sp) := cell_of_blk HK5.out
        have hr2 : wx.cell? ⟨gx, 2, none⟩ = some (.int .i64 at') := cell_of_blk HK5.out
        have HX5 := Aside0.mk (H5.out.next (pw_below_drewN (Below.refl _ wx) 1))
        clear hnk hnx
        go_wp2_with fail
        go_quiet (first | (go_at_call 38; exact (HCT.out _ (pw_below_drewN (Below.refl _ _) _)).mono (fun e w' h => ⟨h.1, _, h.2⟩)) | (go_at_call 39; exact (HN1.out _ (pw_below_drewN (Below.refl _ _) _)).mono (fun e w' h => ⟨h.1, _, h.2⟩)) | (go_at_call 40; exact (HN2.out _ (pw_below_drewN (Below.refl _ _) _)).mono (fun e w' h => ⟨h.1, _, h.2⟩)))
        go_wp2_with fail
        go_roundg (l0.length - (k + 1))
        case measure => omega
        case rel => exact ⟨k + 1, _, _, _, by omega, by go_num, ⟨H5.out.next (pw_below_drewN (Below.refl _ _) _)⟩⟩
      · have hltI : ¬ (k : Int) < l0.length := by omega
        go_wp2_with fail
        refine (awake18 wr).mono ?_
        rintro e w3 ⟨rfl, hb3⟩
        have HB3 := Aside0.mk (two_ands _ _ _ HB.out hb3)
        clear hb3
        go_wp2_with fail
        go_ret
        exact ⟨rfl, HB3.out⟩
end Go.Proofs.Ytckjgfbfjjiikaa.K
