/- A record is read. -/
import Derived.Test.YtkgbcoijkmlmnaaR9
import Derived.Test.YtkgbcoijkmlmnaaKI
import Derived.Test.YtkgbcoijkmlmnaaKQ2
import Derived.Deep.RegionLaw
import Derived.WalkSpells
set_option linter.unusedVariables false
set_option linter.unusedSimpArgs false
set_option maxRecDepth 100000
namespace Go.Proofs.Ytkgbcoijkmlmnaa.K
open Go.RowKit Go.Proofs.YtkgbcoijkmlmnaaW.PrintWords Go.Proofs.YtkgbcoijkmlmnaaW.PrintLast Go.Proofs.YtkgbcoijkmlmnaaW.PrintMore Go.Proofs.Ytkgbcoijkmlmnaa.U Go.Proofs.Ytkgbcoijkmlmnaa.T

theorem step_app_eq {P : Program} {ops : Array Oper} {o : Oper} {a : Act} {W : World} {Kc : Act → World → Prop} {Q : Exit → Act → World → Prop} (hw : Region.wanted o (yielded ops a.tmps) = true) (s x : Operand) (t : TypeId)
    (ho : o.op = .call { callee := .builtin .append, args := #[s, x], argTypes := #[t, t] }) (vs vx v : Value) (w1 : World) (hs : a.eval s = vs) (hx : a.eval x = vx) (hr : (Builtin.append_ #[t, t] o.type #[vs, vx]).run P W = .ok v w1) (h : Kc (a.put o.dst v) w1) :
    if Region.wanted o (yielded ops a.tmps) = true then Oper.wp P o a W Kc Q else Kc (a.put o.dst undef) W := by
  rw [if_pos hw]
  unfold Oper.wp execOp
  simp only [ho, resolve, invoke, builtin, Sem.run_bind, Sem.run_pure, Result.andThen_ok, List.map_toArray, List.map_cons, List.map_nil, hs, hx, hr]
  exact h
theorem step_app_run {P : Program} {ops : Array Oper} {o : Oper} {a : Act} {W : World} {Kc : Act → World → Prop} {Q : Exit → Act → World → Prop} (hw : Region.wanted o (yielded ops a.tmps) = true) (s x : Operand) (t : TypeId)
    (ho : o.op = .call { callee := .builtin .append, args := #[s, x], argTypes := #[t, t] }) (vs vx : Value) (hs : a.eval s = vs) (hx : a.eval x = vx) {R : Value → World → Prop} (hr : ∀ ty, Runs P (Builtin.append_ #[t, t] ty #[vs, vx]) W R) (h : ∀ v w1, R v w1 → Kc (a.put o.dst v) w1) :
    if Region.wanted o (yielded ops a.tmps) = true then Oper.wp P o a W Kc Q else Kc (a.put o.dst undef) W := by
  obtain ⟨v, w1, hrun, hR⟩ := hr o.type
  exact step_app_eq hw s x t ho vs vx v w1 hs hx hrun (h v w1 hR)
/-- What the call that reads a record has made. -/
structure RS (w w' : World) (g g2 gx : Nat) (xs : List Value) : Prop where
  z : w'.heap[g2]? = some (.cells (rawR zeroRec (.slice none 0 0) (.slice none 0 0)).toArray 64 (0, 0))
  x : w'.heap[gx]? = some (.cells xs.toArray 64 (0, 0))
  ch : Ch w w' (fun k => k = g)
  o1 : g < g2
  o2 : g2 < gx
  o3 : w.heap.size ≤ g2
section
variable {w w' w'' : World} {g g2 gx : Nat} {xs : List Value}
theorem RS.call (h : RS w w' g g2 gx xs) (hc : Ch w' w'' (fun k => k = g)) : RS w w'' g g2 gx xs :=
  ⟨hc.blk h.z (by have := h.o1; omega), hc.blk h.x (by have := h.o1; have := h.o2; omega), h.ch.trans hc (fun _ _ e => e), h.o1, h.o2, h.o3⟩
theorem RS.grow (h : RS w w' g g2 gx xs) {S : Nat → Prop} (hc : Ch w' w'' S) (hS : ∀ k, S k → gx + 1 ≤ k) : RS w w'' g g2 gx xs :=
  ⟨hc.blk h.z (fun e => by have := hS _ e; have := h.o2; omega), hc.blk h.x (fun e => by have := hS _ e; omega), h.ch.trans hc (fun k hk e => by have := hS _ e; have := h.o2; have := h.o3; omega), h.o1, h.o2, h.o3⟩
theorem RS.put (h : RS w w' g g2 gx xs) (j : Nat) (v : Value) : RS w (w'.setCell ⟨gx, j, none⟩ v) g g2 gx (xs.set j v) :=
  ⟨by rw [setCell_other (g := 0) (k := g2) ⟨gx, j, none⟩ v (by have := h.o2; show g2 ≠ gx; omega)]; exact h.z, setCell_blk h.x v, h.ch.trans ((Ch.refl w' (fun k => k = gx)).setCell ⟨gx, j, none⟩ v rfl) (fun k hk e => by have : k = gx := e; have := h.o2; have := h.o3; omega), h.o1, h.o2, h.o3⟩
end
/-- A row's block is written, or a new one made. -/
theorem ch_app {w w1 : World} {v : Value} {o : Obj} {B : Nat} (hg : (w.alloc o).grownBy w1 v.ownBlock) (hb : ∀ k, v.ownBlock = some k → B ≤ k) : Ch w w1 (fun k => B ≤ k) :=
  (Ch.of_below ((Below.refl _ _).alloc (Nat.le_refl _) o) _).trans (Ch.of_grown (S := fun k => B ≤ k) hg (fun k hk => hb k hk)) (fun _ _ e => e)
def zv : Value := .slice none 0 0
def xC (k p s a r : Int) (v5 v6 : Value) : List Value := [.int .i64 k, .int .i64 p, .int .i64 s, .int .i64 a, .int .i64 r, v5, v6]

set_option maxHeartbeats 6400000 in
theorem rRecord (g B : Nat) (A : Option Addr) (c : Nat) (b : List Int) (w : World) (hS : Stood w g B A c b parseRec) (hB : B ≤ w.heap.size) :
    Calls Try.prog 50 #[.pointer (some ⟨g, 0, none⟩)] w fun e w' => ∃ x sv pv, e = .returned (recV x sv pv) ∧ Own kI 3 w' B sv x.set ∧ Own kPair 114 w' B pv x.prs ∧ x.set.length ≤ 6 ∧ x.prs.length ≤ 40 ∧ Stood w' g B A c b (cEnd x) ∧ Ch w w' (fun k => k = g) := by
  have hgB : g < B := by obtain ⟨_, _, h, _⟩ := hS; exact h.gB
  obtain ⟨g2, hg2⟩ : ∃ g2, g2 = w.heap.size := ⟨_, rfl⟩
  obtain ⟨wA, hwA⟩ : ∃ wA, wA = w.alloc (.cells #[.int .i64 0, .int .i64 0, .int .i64 0, .int .i64 0, .int .i64 0, .slice none 0 0, .slice none 0 0] 64) := ⟨_, rfl⟩
  have hbA : Below w.heap.size w wA := by rw [hwA]; exact (Below.refl _ _).alloc (Nat.le_refl _) _
  have hzA : wA.heap[g2]? = some (.cells (rawR zeroRec (.slice none 0 0) (.slice none 0 0)).toArray 64 (0, 0)) := by rw [hwA, hg2]; exact alloc_at w _
  have HSA : Aside0 (Stood wA g B A c b (nx (fun k => nx (fun p => nx (fun s => nx (fun a => nx (fun r => c5 k p s a r))))))) := ⟨hS.below hbA⟩
  have HBA := Aside0.mk hbA
  have HZA := Aside0.mk hzA
  have HG := Aside0.mk (And.intro hg2 (And.intro hgB hB))
  have HWA := Aside0.mk (And.intro hwA hg2)
  clear hS hB hgB hg2 hwA hbA hzA
  go_enter Try.func50, Try.ntmps50
  go_upto_region 1 with (fail)
  rw [← HWA.out.2, ← HWA.out.1]
  go_wp2_with fail
  refine (rNum g B A c b _ wA HSA.out).mono ?_
  rintro e w1 ⟨k, rfl, hS1, hC1⟩
  have HS1 := Aside0.mk hS1
  have HC1 := Aside0.mk hC1
  clear hS1 hC1
  go_wp2_with fail
  refine (rNum g B A c b _ w1 HS1.out).mono ?_
  rintro e w2 ⟨p, rfl, hS2, hC2⟩
  have HS2 := Aside0.mk hS2
  have HC2 := Aside0.mk (HC1.out.trans hC2 (fun _ _ e => e))
  clear hS2 hC2 HC1 HS1
  go_wp2_with fail
  refine (rNum g B A c b _ w2 HS2.out).mono ?_
  rintro e w3 ⟨s, rfl, hS3, hC3⟩
  have HS3 := Aside0.mk hS3
  have HC3 := Aside0.mk (HC2.out.trans hC3 (fun _ _ e => e))
  clear hS3 hC3 HC2 HS2
  go_wp2_with fail
  refine (rNum g B A c b _ w3 HS3.out).mono ?_
  rintro e w4 ⟨a, rfl, hS4, hC4⟩
  have HS4 := Aside0.mk hS4
  have HC4 := Aside0.mk (HC3.out.trans hC4 (fun _ _ e => e))
  clear hS4 hC4 HC3 HS3
  go_wp2_with fail
  refine (rNum g B A c b _ w4 HS4.out).mono ?_
  rintro e w5 ⟨r, rfl, hS5, hC5⟩
  have HC5 := Aside0.mk (HC4.out.trans hC5 (fun _ _ e => e))
  obtain ⟨gx, hgx⟩ : ∃ gx, gx = w5.heap.size := ⟨_, rfl⟩
  obtain ⟨wX, hwX⟩ : ∃ wX, wX = w5.alloc (.cells #[.int .i64 k, .int .i64 p, .int .i64 s, .int .i64 a, .int .i64 r, .slice none 0 0, .slice none 0 0] 64) := ⟨_, rfl⟩
  have hbX : Below w5.heap.size w5 wX := by rw [hwX]; exact (Below.refl _ _).alloc (Nat.le_refl _) _
  have hxX : wX.heap[gx]? = some (.cells (xC k p s a r zv zv).toArray 64 (0, 0)) := by rw [hwX, hgx]; exact alloc_at w5 _
  have HSX : Aside0 (Stood wX g B A c b (nc ((6 : Nat) : Int) (fun n => cSet k p s a r n []))) := ⟨hS5.below hbX⟩
  have HRX : Aside0 (RS w wX g g2 gx (xC k p s a r zv zv)) := ⟨by
    obtain ⟨e1, e2, e3⟩ := HG.out
    have hz5 := HC5.out.blk HZA.out (by omega)
    exact ⟨(hbX.block _ (blk_lt' hz5)).trans hz5, hxX, (Ch.of_below HBA.out _).trans (HC5.out.trans (Ch.of_below hbX (fun k => k = g)) (fun _ _ e => e)) (fun _ _ e => e), by omega, by have := blk_lt' hz5; omega, by omega⟩⟩
  have HWX := Aside0.mk (And.intro hwX hgx)
  clear hS5 hC5 HS4 HC4 hgx hwX hbX hxX
  go_upto_region 2 with (fail)
  rw [← HWX.out.2, ← HWX.out.1]
  go_wp2_with fail
  refine (rCount 6 (by decide) g B A c b _ wX HSX.out).mono ?_
  rintro e w6 ⟨m, rfl, hm6, hS6, hC6⟩
  have HS6 := Aside0.mk hS6
  have HR6 := Aside0.mk (HRX.out.call hC6)
  clear hS6 hC6
  go_wp2_with fail
  go_loopg [18] m (fun kq v18 w' => ∃ (j : Nat) (X : List Int) (A5 : Option Addr) (n5 : Nat), j + kq = m ∧ v18 = .int .i64 j ∧ Aside0 (X.length = j) ∧ Aside0 (Stood w' g B A c b (cSet k p s a r (m - j) X)) ∧ Aside0 (RS w w' g g2 gx (xC k p s a r (.slice A5 j n5) zv)) ∧ Aside0 (Own kI 3 w' (gx + 1) (.slice A5 j n5) X))
  case atStart => exact ⟨0, [], none, 0, by omega, rfl, ⟨rfl⟩, HS6, HR6, ⟨Own.nil _ _ _ _⟩⟩
  case round =>
    clear HS6 HR6
    obtain ⟨j, X, A5, n5, hj, rfl, HXL, HS, HR, HO⟩ := hrel
    by_cases hlt : j < m
    · have e1 : m - j = (m - (j + 1)) + 1 := by omega
      obtain ⟨q, hq⟩ : ∃ q, q = m - (j + 1) := ⟨_, rfl⟩
      have HE := Aside0.mk hq
      have hX6 : X.length ≤ 6 := by have := HXL.out; omega
      have HX6 := Aside0.mk hX6
      have HNUM : Aside0 (∀ w', HeldB wr w' → Calls Try.prog 79 #[.pointer (some ⟨g, 0, none⟩)] w' fun e w'' => ∃ n, e = .returned (.int .i64 n) ∧ Aside0 (Stood w'' g B A c b (cSet k p s a r q (X ++ [n]))) ∧ Aside0 (RS w w'' g g2 gx (xC k p s a r (.slice A5 j n5) zv)) ∧ Aside0 (Own kI 3 w'' (gx + 1) (.slice A5 j n5) X) ∧ w''.cell? ⟨gx, 5, none⟩ = some (.slice A5 j n5) ∧ (w''.alloc (.cells #[.int .i64 n] 3)).cell? ⟨gx, 5, none⟩ = some (.slice A5 j n5)) := ⟨fun w' hw => by
        have h1 := HS.out
        rw [e1, ← hq] at h1
        refine (rNum g B A c b (fun n => cSet k p s a r q (X ++ [n])) w' (h1.below hw)).mono ?_
        rintro e w'' ⟨n, rfl, hS, hC⟩
        have hR := (HR.out.call (Ch.of_below hw _)).call hC
        exact ⟨n, rfl, ⟨hS⟩, ⟨hR⟩, ⟨(HO.out.below hw).ch (flat_int .i64) hC (fun i hi e => by have := HO.out.base_ i hi; have := hR.o1; have := hR.o2; omega)⟩, cell_of_blk hR.x, cell_of_blk (alloc_keeps hR.x _)⟩⟩
      have HAPP : Aside0 (∀ w5 n, Aside0 (Stood w5 g B A c b (cSet k p s a r q (X ++ [n]))) → Aside0 (RS w w5 g g2 gx (xC k p s a r (.slice A5 j n5) zv)) → Aside0 (Own kI 3 w5 (gx + 1) (.slice A5 j n5) X) → ∀ ty, Runs Try.prog (Builtin.append_ #[31, 31] ty #[.slice A5 j n5, .slice (some ⟨w5.heap.size, 0, none⟩) 1 1]) (w5.alloc (.cells #[.int .i64 n] 3)) fun v w7 => ∃ A7 n7, v = .slice A7 (j + 1) n7 ∧ Aside0 (Stood (w7.setCell ⟨gx, 5, none⟩ (.slice A7 (j + 1) n7)) g B A c b (cSet k p s a r q (X ++ [n])) ∧ RS w (w7.setCell ⟨gx, 5, none⟩ (.slice A7 (j + 1) n7)) g g2 gx (xC k p s a r (.slice A7 (j + 1) n7) zv) ∧ Own kI 3 (w7.setCell ⟨gx, 5, none⟩ (.slice A7 (j + 1) n7)) (gx + 1) (.slice A7 (j + 1) n7) (X ++ [n])) ∧ w7.cell? ⟨gx, 5, none⟩ = some (.slice A5 j n5) ∧ w7.frozen? ⟨gx, 5, none⟩ = false) := ⟨fun w5 n hS hR hO ty => by
        have hgx5 := blk_lt' hR.out.x
        refine (append_one_runs Try.prog (flat_int .i64) 31 ty _ 8 Try.underlying31 info_int rfl (by decide) (x := n) (cs := [.int .i64 n]) hO.out rfl (by omega) (by have := HX6.out; omega) (by have := HX6.out; omega) 3 _ rfl _ rfl).mono ?_
        rintro v w7 ⟨hO7, hg7⟩
        obtain ⟨A7, n7, rfl, _, _⟩ := hO7.reads
        have hl7 : (X ++ [n]).length = j + 1 := by rw [List.length_append, HXL.out]; rfl
        rw [hl7] at hO7
        rw [hl7]
        have hc7 := ch_app hg7 hO.out.base_
        have hR7 := hR.out.grow hc7 (fun _ e => e)
        have hcs : Ch w7 (w7.setCell ⟨gx, 5, none⟩ (.slice A7 (j + 1) n7)) (fun k => k = gx) := (Ch.refl w7 (fun k => k = gx)).setCell ⟨gx, 5, none⟩ _ rfl
        have hBx : B ≤ gx := by have := HG.out; have := hR7.o2; omega
        exact ⟨A7, n7, rfl, ⟨(hS.out.up (hc7.mono (fun i e => by have : gx + 1 ≤ i := e; show B ≤ i; omega))).up (hcs.mono (fun i e => by have : i = gx := e; show B ≤ i; omega)), hR7.put 5 _, hO7.ch (flat_int .i64) hcs (fun i hi e => by have := hO7.base_ i hi; omega)⟩, cell_of_blk hR7.x, frozen_of_blk hR7.x⟩⟩
      have hh0 : HeldB wr wr.drew := ⟨rfl, rfl, rfl, Nat.le_refl _, fun _ _ => rfl⟩
      have q0 : wr.drew.cell? ⟨gx, 5, none⟩ = some (.slice A5 j n5) := by
        have h := (Below.block hh0 _ (blk_lt' HR.out.x)).trans HR.out.x
        exact cell_of_blk h
      clear hX6 hq e1
      go_upto_region 4 with (fail)
      go_region_law (first
        | (rw [if_pos (by rfl)]; go_simp; go_at_call 79; refine (HNUM.out _ hh0).mono ?_; rintro e w5 ⟨n, rfl, hS5, hR5, hO5, q5, q5'⟩)
        | (refine step_app_run rfl (.tmp 21) (.tmp 24) 31 rfl (.slice A5 j n5) (.slice (some ⟨w5.heap.size, 0, none⟩) 1 1) (by simp [Act.eval, Act.put]) (by simp [Act.eval, Act.put]) (HAPP.out w5 n hS5 hR5 hO5) ?_; rintro _ w7 ⟨A7, n7, rfl, hALL, q7, z7⟩))
      all_goals
        obtain ⟨w9, hw9⟩ : ∃ w9, w9 = w7.setCell ⟨gx, 5, none⟩ (.slice A7 (j + 1) n7) := ⟨_, rfl⟩
        rw [← hw9] at hALL ⊢
        clear hw9 q7 z7 q5 q5' q0 hh0 hS5 hR5 hO5
        go_wp2_with fail
        go_roundg (m - (j + 1))
        case measure => omega
        case rel => exact ⟨j + 1, X ++ [n], A7, n7, by omega, by go_num, ⟨by rw [List.length_append, HXL.out]; rfl⟩, ⟨by rw [← HE.out]; exact hALL.out.1⟩, ⟨hALL.out.2.1⟩, ⟨hALL.out.2.2⟩⟩
    · obtain rfl : j = m := by omega
      have HSM : Aside0 (Stood wr g B A c b (nc ((40 : Nat) : Int) (fun n => cPairs (fun ps => ⟨k, p, s, a, r, X, ps⟩) n []))) := ⟨by
        have h := HS.out
        rw [Nat.sub_self] at h
        exact h⟩
      clear HS
      go_wp2_with fail
      refine (rCount 40 (by decide) g B A c b _ wr HSM.out).mono ?_
      rintro e w8 ⟨m2, rfl, hm40, hS8, hC8⟩
      obtain ⟨s2, hs2⟩ : ∃ s2, s2 = w8.heap.size := ⟨_, rfl⟩
      have HS8 := Aside0.mk hS8
      have HR8 := Aside0.mk (HR.out.call hC8)
      have HO8 := Aside0.mk (HO.out.ch (flat_int .i64) hC8 (fun i hi e => by have := HO.out.base_ i hi; have := HR.out.o1; have := HR.out.o2; omega))
      have HX2 : Aside0 (gx + 1 ≤ s2 ∧ s2 = w8.heap.size) := ⟨by rw [hs2]; exact blk_lt' HR8.out.x, hs2⟩
      clear hS8 hC8 HR HO hs2
      go_wp2_with fail
      go_loopg [30] m2 (fun kq v30 w' => ∃ (i : Nat) (Y : List PairD) (A6 : Option Addr) (n6 : Nat), i + kq = m2 ∧ v30 = .int .i64 i ∧ Aside0 (Y.length = i) ∧ Aside0 (Stood w' g B A c b (cPairs (fun ps => ⟨k, p, s, a, r, X, ps⟩) (m2 - i) Y)) ∧ Aside0 (RS w w' g g2 gx (xC k p s a r (.slice A5 j n5) (.slice A6 i n6))) ∧ Aside0 (Own kPair 114 w' s2 (.slice A6 i n6) Y) ∧ Aside0 (Ch w8 w' (fun k => k = g ∨ k = gx)))
      case atStart => exact ⟨0, [], none, 0, by omega, rfl, ⟨rfl⟩, HS8, HR8, ⟨Own.nil _ _ _ _⟩, ⟨Ch.refl _ _⟩⟩
      case round =>
        clear HS8 HR8
        obtain ⟨i, Y, A6, n6, hi, rfl, HYL, HS, HR, HO, HCH⟩ := hrel
        by_cases hlt : i < m2
        · have e1 : m2 - i = (m2 - (i + 1)) + 1 := by omega
          obtain ⟨q, hq⟩ : ∃ q, q = m2 - (i + 1) := ⟨_, rfl⟩
          have HE := Aside0.mk hq
          have hY40 : Y.length ≤ 40 := by have := HYL.out; omega
          have HY40 := Aside0.mk hY40
          have HS1 : Aside0 (Stood wr g B A c b (nt (fun x => nt (fun y => cPairs (fun ps => ⟨k, p, s, a, r, X, ps⟩) q (Y ++ [⟨x, y⟩]))))) := ⟨by
            have h1 := HS.out
            rw [e1, ← hq] at h1
            exact h1⟩
          clear hY40 hq e1
          go_wp2_with fail
          refine (rText g B A c b _ wr HS1.out).mono ?_
          rintro e wt ⟨x, rfl, hSt, _, hCt⟩
          have HSt := Aside0.mk hSt
          have HRt := Aside0.mk (HR.out.call hCt)
          have HOt := Aside0.mk (HO.out.ch flat_pair hCt (fun j hj e => by have := HO.out.base_ j hj; have := HR.out.o1; have := HR.out.o2; have := HX2.out; omega))
          have HCt := Aside0.mk (HCH.out.trans hCt (fun _ _ e => .inl e))
          clear hSt hCt
          have HTXT : Aside0 (∀ w', HeldB wt w' → Calls Try.prog 81 #[.pointer (some ⟨g, 0, none⟩)] w' fun e w'' => ∃ y, e = .returned (.string y) ∧ Aside0 (Stood w'' g B A c b (cPairs (fun ps => ⟨k, p, s, a, r, X, ps⟩) q (Y ++ [⟨x, y⟩]))) ∧ Aside0 (RS w w'' g g2 gx (xC k p s a r (.slice A5 j n5) (.slice A6 i n6))) ∧ Aside0 (Own kPair 114 w'' s2 (.slice A6 i n6) Y) ∧ Aside0 (Ch w8 w'' (fun k => k = g ∨ k = gx)) ∧ w''.cell? ⟨gx, 6, none⟩ = some (.slice A6 i n6) ∧ (w''.alloc (.cells #[.string x, .string y] 114)).cell? ⟨gx, 6, none⟩ = some (.slice A6 i n6)) := ⟨fun w' hw => by
            refine (rText g B A c b (fun y => cPairs (fun ps => ⟨k, p, s, a, r, X, ps⟩) q (Y ++ [⟨x, y⟩])) w' (HSt.out.below hw)).mono ?_
            rintro e w'' ⟨y, rfl, hS, _, hC⟩
            have hR := (HRt.out.call (Ch.of_below hw _)).call hC
            exact ⟨y, rfl, ⟨hS⟩, ⟨hR⟩, ⟨(HOt.out.below hw).ch flat_pair hC (fun j hj e => by have := HOt.out.base_ j hj; have := hR.o1; have := hR.o2; have := HX2.out; omega)⟩, ⟨(HCt.out.trans (Ch.of_below hw (fun k => k = g)) (fun _ _ e => .inl e)).trans hC (fun _ _ e => .inl e)⟩, cell_of_blk hR.x, cell_of_blk (alloc_keeps hR.x _)⟩⟩
          have HAPP : Aside0 (∀ w5 y, Aside0 (Stood w5 g B A c b (cPairs (fun ps => ⟨k, p, s, a, r, X, ps⟩) q (Y ++ [⟨x, y⟩]))) → Aside0 (RS w w5 g g2 gx (xC k p s a r (.slice A5 j n5) (.slice A6 i n6))) → Aside0 (Own kPair 114 w5 s2 (.slice A6 i n6) Y) → Aside0 (Ch w8 w5 (fun k => k = g ∨ k = gx)) → ∀ ty, Runs Try.prog (Builtin.append_ #[32, 32] ty #[.slice A6 i n6, .slice (some ⟨w5.heap.size, 0, none⟩) 1 1]) (w5.alloc (.cells #[.string x, .string y] 114)) fun v w7 => ∃ A7 n7, v = .slice A7 (i + 1) n7 ∧ Aside0 (Stood (w7.setCell ⟨gx, 6, none⟩ (.slice A7 (i + 1) n7)) g B A c b (cPairs (fun ps => ⟨k, p, s, a, r, X, ps⟩) q (Y ++ [⟨x, y⟩])) ∧ RS w (w7.setCell ⟨gx, 6, none⟩ (.slice A7 (i + 1) n7)) g g2 gx (xC k p s a r (.slice A5 j n5) (.slice A7 (i + 1) n7)) ∧ Own kPair 114 (w7.setCell ⟨gx, 6, none⟩ (.slice A7 (i + 1) n7)) s2 (.slice A7 (i + 1) n7) (Y ++ [⟨x, y⟩]) ∧ Ch w8 (w7.setCell ⟨gx, 6, none⟩ (.slice A7 (i + 1) n7)) (fun k => k = g ∨ k = gx)) ∧ w7.cell? ⟨gx, 6, none⟩ = some (.slice A6 i n6) ∧ w7.frozen? ⟨gx, 6, none⟩ = false) := ⟨fun w5 y hS hR hO hCH ty => by
            have hgx5 := blk_lt' hR.out.x
            have hs25 : s2 ≤ w5.heap.size := by have := hCH.out.size; have := HX2.out; omega
            refine (append_one_runs Try.prog flat_pair 32 ty _ 32 Try.underlying32 info_pair rfl (by decide) (x := (⟨x, y⟩ : PairD)) (cs := [.string x, .string y]) hO.out (kPair_mk _ _) hs25 (by have := HY40.out; omega) (by have := HY40.out; omega) 114 _ rfl _ rfl).mono ?_
            rintro v w7 ⟨hO7, hg7⟩
            obtain ⟨A7, n7, rfl, _, _⟩ := hO7.reads
            have hl7 : (Y ++ [(⟨x, y⟩ : PairD)]).length = i + 1 := by rw [List.length_append, HYL.out]; rfl
            rw [hl7] at hO7
            rw [hl7]
            have hc7 := ch_app hg7 hO.out.base_
            have hR7 := hR.out.grow hc7 (fun i e => by have : s2 ≤ i := e; have := HX2.out; omega)
            have hcs : Ch w7 (w7.setCell ⟨gx, 6, none⟩ (.slice A7 (i + 1) n7)) (fun k => k = gx) := (Ch.refl w7 (fun k => k = gx)).setCell ⟨gx, 6, none⟩ _ rfl
            have hBx : B ≤ gx := by have := HG.out; have := hR7.o2; omega
            refine ⟨A7, n7, rfl, ⟨(hS.out.up (hc7.mono (fun i e => by have : s2 ≤ i := e; have := HX2.out; show B ≤ i; omega))).up (hcs.mono (fun i e => by have : i = gx := e; show B ≤ i; omega)), hR7.put 6 _, hO7.ch flat_pair hcs (fun i hi e => by have := hO7.base_ i hi; have := HX2.out; omega), ?_⟩, cell_of_blk hR7.x, frozen_of_blk hR7.x⟩
            exact (hCH.out.trans hc7 (fun j hj e => by have : s2 ≤ j := e; have := HX2.out; omega)).trans hcs (fun _ _ e => .inr e)⟩
          have hh0 : HeldB wt wt.drew := ⟨rfl, rfl, rfl, Nat.le_refl _, fun _ _ => rfl⟩
          have q0 : wt.drew.cell? ⟨gx, 6, none⟩ = some (.slice A6 i n6) := by
            have h := (Below.block hh0 _ (blk_lt' HRt.out.x)).trans HRt.out.x
            exact cell_of_blk h
          go_upto_region 9 with (fail)
          go_region_law (first
            | (rw [if_pos (by rfl)]; go_simp; go_at_call 81; refine (HTXT.out _ hh0).mono ?_; rintro e w5 ⟨y, rfl, hS5, hR5, hO5, hC5, q5, q5'⟩)
            | (refine step_app_run rfl (.tmp 35) (.tmp 40) 32 rfl (.slice A6 i n6) (.slice (some ⟨w5.heap.size, 0, none⟩) 1 1) (by simp [Act.eval, Act.put]) (by simp [Act.eval, Act.put]) (HAPP.out w5 y hS5 hR5 hO5 hC5) ?_; rintro _ w7 ⟨A7, n7, rfl, hALL, q7, z7⟩))
          all_goals
            obtain ⟨w9, hw9⟩ : ∃ w9, w9 = w7.setCell ⟨gx, 6, none⟩ (.slice A7 (i + 1) n7) := ⟨_, rfl⟩
            rw [← hw9] at hALL ⊢
            clear hw9 q7 z7 q5 q5' q0 hh0 hS5 hR5 hO5 hC5
            go_wp2_with fail
            go_roundg (m2 - (i + 1))
            case measure => omega
            case rel => exact ⟨i + 1, Y ++ [⟨x, y⟩], A7, n7, by omega, by go_num, ⟨by rw [List.length_append, HYL.out]; rfl⟩, ⟨by rw [← HE.out]; exact hALL.out.1⟩, ⟨hALL.out.2.1⟩, ⟨hALL.out.2.2.1⟩, ⟨hALL.out.2.2.2⟩⟩
        · obtain rfl : i = m2 := by omega
          have hx := HR.out.x
          have hz := HR.out.z
          have e0 : wr.cell? ⟨gx, 0, none⟩ = some (.int .i64 k) := cell_of_blk hx
          have e1 : wr.cell? ⟨gx, 1, none⟩ = some (.int .i64 p) := cell_of_blk hx
          have e2 : wr.cell? ⟨gx, 2, none⟩ = some (.int .i64 s) := cell_of_blk hx
          have e3 : wr.cell? ⟨gx, 3, none⟩ = some (.int .i64 a) := cell_of_blk hx
          have e4 : wr.cell? ⟨gx, 4, none⟩ = some (.int .i64 r) := cell_of_blk hx
          have e5 : wr.cell? ⟨gx, 5, none⟩ = some (.slice A5 j n5) := cell_of_blk hx
          have e6 : wr.cell? ⟨gx, 6, none⟩ = some (.slice A6 i n6) := cell_of_blk hx
          have f0 : wr.cell? ⟨g2, 0, none⟩ = some (.int .i64 0) := cell_of_blk hz
          have f1 : wr.cell? ⟨g2, 1, none⟩ = some (.int .i64 0) := cell_of_blk hz
          have f2 : wr.cell? ⟨g2, 2, none⟩ = some (.int .i64 0) := cell_of_blk hz
          have f3 : wr.cell? ⟨g2, 3, none⟩ = some (.int .i64 0) := cell_of_blk hz
          have f4 : wr.cell? ⟨g2, 4, none⟩ = some (.int .i64 0) := cell_of_blk hz
          have f5 : wr.cell? ⟨g2, 5, none⟩ = some (.slice none 0 0) := cell_of_blk hz
          have f6 : wr.cell? ⟨g2, 6, none⟩ = some (.slice none 0 0) := cell_of_blk hz
          have z0 : wr.frozen? ⟨g2, 0, none⟩ = false := frozen_of_blk hz
          have z1 : wr.frozen? ⟨g2, 1, none⟩ = false := frozen_of_blk hz
          have z2 : wr.frozen? ⟨g2, 2, none⟩ = false := frozen_of_blk hz
          have z3 : wr.frozen? ⟨g2, 3, none⟩ = false := frozen_of_blk hz
          have z4 : wr.frozen? ⟨g2, 4, none⟩ = false := frozen_of_blk hz
          have z5 : wr.frozen? ⟨g2, 5, none⟩ = false := frozen_of_blk hz
          have z6 : wr.frozen? ⟨g2, 6, none⟩ = false := frozen_of_blk hz
          have hu := Try.underlying64
          clear hx hz
          go_wp2_with fail
          obtain ⟨w9, hw9⟩ : ∃ w9, w9 = ((((((wr.setCell ⟨g2, 0, none⟩ (.int .i64 k)).setCell ⟨g2, 1, none⟩ (.int .i64 p)).setCell ⟨g2, 2, none⟩ (.int .i64 s)).setCell ⟨g2, 3, none⟩ (.int .i64 a)).setCell ⟨g2, 4, none⟩ (.int .i64 r)).setCell ⟨g2, 5, none⟩ (.slice A5 j n5)).setCell ⟨g2, 6, none⟩ (.slice A6 i n6) := ⟨_, rfl⟩
          have hq9 := (setCell_blk (j := 6) (setCell_blk (j := 5) (setCell_blk (j := 4) (setCell_blk (j := 3) (setCell_blk (j := 2) (setCell_blk (j := 1) (setCell_blk (j := 0) HR.out.z (.int .i64 k)) (.int .i64 p)) (.int .i64 s)) (.int .i64 a)) (.int .i64 r)) (.slice A5 j n5)) (.slice A6 i n6))
          have hc9 := ((((((((Ch.refl wr (fun k => k = g2)).setCell ⟨g2, 0, none⟩ (.int .i64 k) rfl).setCell ⟨g2, 1, none⟩ (.int .i64 p) rfl).setCell ⟨g2, 2, none⟩ (.int .i64 s) rfl).setCell ⟨g2, 3, none⟩ (.int .i64 a) rfl).setCell ⟨g2, 4, none⟩ (.int .i64 r) rfl).setCell ⟨g2, 5, none⟩ (.slice A5 j n5) rfl).setCell ⟨g2, 6, none⟩ (.slice A6 i n6) rfl)
          rw [← hw9] at hq9 hc9 ⊢
          clear hw9 e0 e1 e2 e3 e4 e5 e6 f0 f1 f2 f3 f4 f5 f6 z0 z1 z2 z3 z4 z5 z6
          have y0 : w9.cell? ⟨g2, 0, none⟩ = some (.int .i64 k) := cell_of_blk hq9
          have y1 : w9.cell? ⟨g2, 1, none⟩ = some (.int .i64 p) := cell_of_blk hq9
          have y2 : w9.cell? ⟨g2, 2, none⟩ = some (.int .i64 s) := cell_of_blk hq9
          have y3 : w9.cell? ⟨g2, 3, none⟩ = some (.int .i64 a) := cell_of_blk hq9
          have y4 : w9.cell? ⟨g2, 4, none⟩ = some (.int .i64 r) := cell_of_blk hq9
          have y5 : w9.cell? ⟨g2, 5, none⟩ = some (.slice A5 j n5) := cell_of_blk hq9
          have y6 : w9.cell? ⟨g2, 6, none⟩ = some (.slice A6 i n6) := cell_of_blk hq9
          have HEND : Aside0 (Own kI 3 w9 B (.slice A5 j n5) X ∧ Own kPair 114 w9 B (.slice A6 i n6) Y ∧ Stood w9 g B A c b (cEnd ⟨k, p, s, a, r, X, Y⟩) ∧ Ch w w9 (fun k => k = g)) := ⟨by
            obtain ⟨h1, h2, h3⟩ := HG.out
            have h4 := HR.out.o2
            have h5 := HR.out.o1
            have h6 := HX2.out
            have hS0 := HS.out
            rw [Nat.sub_self] at hS0
            refine ⟨?_, ?_, ?_, ?_⟩
            · exact (((HO8.out.ch (flat_int .i64) HCH.out (fun i hi e => by have := HO8.out.base_ i hi; have e : i = g ∨ i = gx := e; omega)).ch (flat_int .i64) hc9 (fun i hi e => by have := HO8.out.base_ i hi; have e : i = g2 := e; omega))).lower (by omega)
            · exact (HO.out.ch flat_pair hc9 (fun i hi e => by have := HO.out.base_ i hi; have e : i = g2 := e; omega)).lower (by omega)
            · exact Stood.up (G := cEnd ⟨k, p, s, a, r, X, Y⟩) hS0 (hc9.mono (fun i e => by have e : i = g2 := e; show B ≤ i; omega))
            · exact HR.out.ch.trans hc9 (fun i hi e => by have e : i = g2 := e; omega)⟩
          have HL2 : Aside0 (X.length ≤ 6 ∧ Y.length ≤ 40) := ⟨by have := HXL.out; have := HYL.out; omega⟩
          clear hq9 hc9
          refine bodyPost_ret (v := recV ⟨k, p, s, a, r, X, Y⟩ (.slice A5 j n5) (.slice A6 i n6)) ?_ rfl ⟨⟨k, p, s, a, r, X, Y⟩, _, _, rfl, HEND.out.1, HEND.out.2.1, HL2.out.1, HL2.out.2, HEND.out.2.2.1, HEND.out.2.2.2⟩
          simp [results, Try.results50, go_sem, *]
          rfl
end Go.Proofs.Ytkgbcoijkmlmnaa.K
