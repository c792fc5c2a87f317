/- The master: Winners, run, ends; what is contained. WRITTEN BY wip/gen_y9.py. -/
import Derived.Test.YtbnhhlahbhjogaaY8
set_option linter.unusedVariables false
set_option linter.unusedSimpArgs false
set_option maxRecDepth 100000
namespace Go.Proofs.Ytbnhhlahbhjogaa.K
open Go.RowKit Go.Proofs.YtbnhhlahbhjogaaW.PrintWords Go.Proofs.YtbnhhlahbhjogaaW.PrintLast Go.Proofs.YtbnhhlahbhjogaaW.PrintMore Go.Proofs.Ytbnhhlahbhjogaa.U Go.Proofs.Ytbnhhlahbhjogaa.T

/-- The splits that were won, of the first k. -/
def winUp (m : MaS) : Nat → List Int
  | 0 => []
  | k + 1 => if (m.sp.getD k zeroS).won = true then winUp m k ++ [(k : Int)] else winUp m k
theorem winUp_len (m : MaS) (k : Nat) : (winUp m k).length ≤ k := by
  induction k with
  | zero => exact Nat.le_refl _
  | succ k ih =>
    unfold winUp
    split
    · rw [List.length_append, List.length_singleton]; omega
    · omega
def winners (m : MaS) : List Int := winUp m m.sp.length
section
variable {w w' : World} {gM gS gT : Nat} {F S : Nat → Prop} {c : CfgD} {h : CfH} {zs : List SpV} {C : List Int} {ok : Nat → Prop} {m : MaS}
theorem int_C (w : World) (x : Int) {g : Nat} {t : TypeId} {fr : Nat × Nat} (h : w.heap[g]? = some (.cells ([.int .i64 x] : List Value).toArray t fr)) : Kd.C kI w (some ⟨g, 0, none⟩) 1 [x] := by
  refine ⟨rfl, by show 1 ≤ 9223372036854775807; omega, fun _ => ⟨_, rfl, fun j y hj => ?_⟩⟩
  have hj0 : j = 0 ∧ x = y := by
    cases j with
    | zero => simpa using hj
    | succ j => simp at hj
  obtain ⟨rfl, rfl⟩ := hj0
  refine ⟨_, rfl, rfl, fun i u hu => ?_⟩
  rw [show 0 * kI.sz + i = i from by rw [Nat.zero_mul, Nat.zero_add]]
  exact cells_of_blk h i u hu
set_option maxHeartbeats 1600000 in
theorem mWinners (p : MaP w gM gS gT F c h zs C ok m) : Calls Try.prog 29 #[.pointer (some ⟨gM, 0, none⟩)] w fun e w' => ∃ v, e = .returned v ∧ Own kI 3 w' w.heap.size v (winners m) ∧ Below w.heap.size w w' := by
  have hc := p.c_sp
  have HP := Aside0.mk p
  have hN8 : c.job.splits.length ≤ 6 := by have := p.may.job.splits.2; omega
  have hml : winners m = winUp m c.job.splits.length := by unfold winners; rw [p.len]
  rw [hml]
  obtain ⟨N, hN⟩ : ∃ N, N = c.job.splits.length := ⟨_, rfl⟩
  rw [← hN] at hc hN8 ⊢
  have HN := Aside0.mk hN
  clear p hN hml
  go_enter Try.func29, Try.ntmps29
  go_wp2_with fail
  go_loopg [3, 4, 12] N (fun kq v3 v4 v12 w' => ∃ (k : Nat), k + kq = N ∧ v12 = .int .i64 k ∧ Aside0 (Own kI 3 w' w.heap.size v3 (winUp m k)) ∧ Aside0 (Below w.heap.size w w'))
  case atStart => exact ⟨0, by omega, rfl, ⟨Own.nil _ _ _ _⟩, ⟨Below.refl _ _⟩⟩
  case round =>
    obtain ⟨k, hk, rfl, HO, HB⟩ := hrel
    by_cases hlt : k < N
    · have hltI : (k : Int) < N := by omega
      have hk0 : (0 : Int) ≤ (k : Int) := by omega
      have q := HP.out.below HB.out
      have hc13 := q.c_sp
      obtain ⟨cv, hz, f0, f1, f2, f3, f4, f5⟩ := q.split k (by rw [← HN.out]; exact hlt)
      have ha := add6 gS k
      rw [← HN.out] at hc13
      have hwl := winUp_len m k
      clear f0 f1 f2 f4 f5 hz q hc
      cases hw : (m.sp.getD k zeroS).won
      · rw [hw] at f3
        have HU : Aside0 (winUp m (k + 1) = winUp m k) := ⟨by show (if _ then _ else _) = _; rw [if_neg (by rw [hw]; decide)]⟩
        clear hw
        go_wp2_with fail
        go_roundg (N - (k + 1))
        case measure => omega
        case rel => exact ⟨k + 1, by omega, by go_num, ⟨by rw [HU.out]; exact HO.out⟩, HB⟩
      · rw [hw] at f3
        have HU : Aside0 (winUp m (k + 1) = winUp m k ++ [(k : Int)]) := ⟨by show (if _ then _ else _) = _; rw [if_pos hw]⟩
        obtain ⟨A, cp, rfl, _, _⟩ := HO.out.reads
        obtain ⟨n, hn⟩ : ∃ n, n = (winUp m k).length := ⟨_, rfl⟩
        rw [← hn] at hwl
        have hb5 := (Below.refl wr.heap.size wr).alloc (Nat.le_refl _) (.cells #[.int .i64 k] 3)
        have HO5 := Aside0.mk (HO.out.below hb5)
        have HB5 := Aside0.mk (below_then HB.out HB.out.size hb5)
        have HL5 := Aside0.mk (int_C (wr.alloc (.cells #[.int .i64 k] 3)) (k : Int) (g := wr.heap.size) (alloc_at wr _))
        have hbs : w.heap.size ≤ (wr.alloc (.cells #[.int .i64 k] 3)).heap.size := HB5.out.size
        rw [← hn] at HO5 ⊢
        have HNN := Aside0.mk hn
        clear hb5 hw hn
        go_wp2_with (at_builtin; refine wpList_app_own (flat_int .i64) w.heap.size rfl _ _ 24 3 _ 8 rfl Try.underlying24 info_int rfl (by decide) (by decide) (.slice A n cp) (winUp m k) [(k : Int)] (some ⟨wr.heap.size, 0, none⟩) 1 1 rfl rfl HO5.out rfl HL5.out hbs (by rw [← HNN.out]; show (n + 1) * 8 ≤ 140737488355328; omega) ?_; intro v4 w4 hv4 hg4 hat4; rw [← HU.out] at hv4; have HV4 := Aside0.mk hv4; have HB4 := Aside0.mk (Below.ch HB5.out (Ch.of_grown (S := fun j => (Value.slice A n cp).ownBlock = some j) hg4 (fun j hj => hj)) hbs (fun j hj => HO5.out.base_ j hj)); clear hv4 hg4 hat4)
        go_roundg (N - (k + 1))
        case measure => omega
        case rel => exact ⟨k + 1, by omega, by go_num, HV4, HB4⟩
    · obtain rfl : k = N := by omega
      go_wp2_with fail
      go_ret
      exact ⟨_, rfl, HO.out, HB.out⟩
/-- A letter that asks for an attempt. -/
def runL (c : CfgD) (n : Int) (k att : Int) : FLet := ⟨turnN true c.workers n, 1, k, att, 0, 0, 0⟩
set_option maxHeartbeats 1600000 in
theorem mRun (p : MaP w gM gS gT F c h zs C ok m) (n k att : Int) : Calls Try.prog 51 #[.pointer (some ⟨gM, 0, none⟩), .int .i64 n, .int .i64 k, .int .i64 att] w fun e w' => e = .returned (letV (runL c n k att).d (.slice none 0 0) (.slice none 0 0)) ∧ Below w.heap.size w w' := by
  obtain ⟨g, hg⟩ : ∃ g, g = w.heap.size := ⟨_, rfl⟩
  obtain ⟨wA, hwA⟩ : ∃ wA, wA = w.alloc (.cells zeroL.toArray 51) := ⟨_, rfl⟩
  have hbA : Below w.heap.size w wA := by rw [hwA]; exact (Below.refl _ _).alloc (Nat.le_refl _) _
  have hgA : wA.heap[g]? = some (.cells zeroL.toArray 51 (0, 0)) := by rw [hwA, hg]; exact alloc_at w _
  have q := p.below hbA
  obtain ⟨⟨sp, parts, mp, cb, rd_, ck, wn, fu, mk⟩, wk, tr, tmo⟩ := c
  obtain ⟨A1, A2, A3, A4, A5, c1, c2, c3, c4, c5⟩ := h
  have HT := Aside0.mk (turn ⟨sp, parts, mp, cb, rd_, ck, wn, fu, mk⟩ wk tr tmo A1 A2 A3 A4 A5 c1 c2 c3 c4 c5 wA q.cfg.reads n true (by simpa using q.may) _ rfl)
  have q0 : wA.cell? ⟨gM, 0, none⟩ = some (.slice A1 sp.length c1) := cell_of_blk q.blk
  have q1 : wA.cell? ⟨gM, 1, none⟩ = some (.int .i64 parts) := cell_of_blk q.blk
  have q2 : wA.cell? ⟨gM, 2, none⟩ = some (.slice A2 mp.length c2) := cell_of_blk q.blk
  have q3 : wA.cell? ⟨gM, 3, none⟩ = some (.slice A3 cb.length c3) := cell_of_blk q.blk
  have q4 : wA.cell? ⟨gM, 4, none⟩ = some (.slice A4 rd_.length c4) := cell_of_blk q.blk
  have q5 : wA.cell? ⟨gM, 5, none⟩ = some (.int .i64 ck) := cell_of_blk q.blk
  have q6 : wA.cell? ⟨gM, 6, none⟩ = some (.int .i64 wn) := cell_of_blk q.blk
  have q7 : wA.cell? ⟨gM, 7, none⟩ = some (.int .i64 fu) := cell_of_blk q.blk
  have q8 : wA.cell? ⟨gM, 8, none⟩ = some (.slice A5 mk.length c5) := cell_of_blk q.blk
  have q9 : wA.cell? ⟨gM, 9, none⟩ = some (.int .i64 wk) := cell_of_blk q.blk
  have q10 : wA.cell? ⟨gM, 10, none⟩ = some (.int .i64 tr) := cell_of_blk q.blk
  have q11 : wA.cell? ⟨gM, 11, none⟩ = some (.int .i64 tmo) := cell_of_blk q.blk
  have huc := Try.underlying28
  have huj := Try.underlying26
  have hu := Try.underlying51
  have hum := Try.underlying45
  have HWA := Aside0.mk hwA
  have HG := Aside0.mk hg
  have HBA := Aside0.mk hbA
  have HGA := Aside0.mk hgA
  clear p q hwA hg hbA hgA
  unfold runL FLet.d letV
  go_enter Try.func51, Try.ntmps51
  go_upto_region 1 with (fail)
  rw [show w.alloc (.cells #[.int .i64 0, .int .i64 0, .int .i64 0, .int .i64 0, .int .i64 0, .int .i64 0, .int .i64 0, .int .i64 0, .int .i64 0, .int .i64 0, .slice none 0 0, .slice none 0 0] 51) = wA from HWA.out.symm, ← HG.out]
  go_wp2_with fail
  refine HT.out.mono ?_
  rintro e w1 ⟨rfl, hb1⟩
  have hg1 := (hb1.block g (blk_lt' HGA.out)).trans HGA.out
  have HG1 := Aside0.mk hg1
  have HB1 := Aside0.mk (below_then HBA.out HBA.out.size hb1)
  have f0 : w1.cell? ⟨g, 0, none⟩ = some (.int .i64 0) := cell_of_blk hg1
  have z0 : w1.frozen? ⟨g, 0, none⟩ = false := frozen_of_blk hg1
  have f1 : w1.cell? ⟨g, 1, none⟩ = some (.int .i64 0) := cell_of_blk hg1
  have z1 : w1.frozen? ⟨g, 1, none⟩ = false := frozen_of_blk hg1
  have f2 : w1.cell? ⟨g, 2, none⟩ = some (.int .i64 0) := cell_of_blk hg1
  have z2 : w1.frozen? ⟨g, 2, none⟩ = false := frozen_of_blk hg1
  have f3 : w1.cell? ⟨g, 3, none⟩ = some (.int .i64 0) := cell_of_blk hg1
  have z3 : w1.frozen? ⟨g, 3, none⟩ = false := frozen_of_blk hg1
  have f4 : w1.cell? ⟨g, 4, none⟩ = some (.int .i64 0) := cell_of_blk hg1
  have z4 : w1.frozen? ⟨g, 4, none⟩ = false := frozen_of_blk hg1
  have f5 : w1.cell? ⟨g, 5, none⟩ = some (.int .i64 0) := cell_of_blk hg1
  have z5 : w1.frozen? ⟨g, 5, none⟩ = false := frozen_of_blk hg1
  have f6 : w1.cell? ⟨g, 6, none⟩ = some (.int .i64 0) := cell_of_blk hg1
  have z6 : w1.frozen? ⟨g, 6, none⟩ = false := frozen_of_blk hg1
  have f7 : w1.cell? ⟨g, 7, none⟩ = some (.int .i64 0) := cell_of_blk hg1
  have z7 : w1.frozen? ⟨g, 7, none⟩ = false := frozen_of_blk hg1
  have f8 : w1.cell? ⟨g, 8, none⟩ = some (.int .i64 0) := cell_of_blk hg1
  have z8 : w1.frozen? ⟨g, 8, none⟩ = false := frozen_of_blk hg1
  have f9 : w1.cell? ⟨g, 9, none⟩ = some (.int .i64 0) := cell_of_blk hg1
  have z9 : w1.frozen? ⟨g, 9, none⟩ = false := frozen_of_blk hg1
  have f10 : w1.cell? ⟨g, 10, none⟩ = some (.slice none 0 0) := cell_of_blk hg1
  have z10 : w1.frozen? ⟨g, 10, none⟩ = false := frozen_of_blk hg1
  have f11 : w1.cell? ⟨g, 11, none⟩ = some (.slice none 0 0) := cell_of_blk hg1
  have z11 : w1.frozen? ⟨g, 11, none⟩ = false := frozen_of_blk hg1
  clear hg1 hb1 q0 q1 q2 q3 q4 q5 q6 q7 q8 q9 q10 q11
  go_wp2_with fail
  obtain ⟨w9, hw9⟩ : ∃ w9, w9 = wrote12 w1 g (.int .i64 0) (.int .i64 (turnN true wk n)) (.int .i64 1) (.int .i64 k) (.int .i64 att) (.int .i64 0) (.int .i64 0) (.int .i64 0) (.int .i64 0) (.int .i64 0) (.slice none 0 0) (.slice none 0 0) := ⟨_, rfl⟩
  have hq9 := set12 HG1.out (.int .i64 0) (.int .i64 (turnN true wk n)) (.int .i64 1) (.int .i64 k) (.int .i64 att) (.int .i64 0) (.int .i64 0) (.int .i64 0) (.int .i64 0) (.int .i64 0) (.slice none 0 0) (.slice none 0 0)
  have hc9 := set12_ch w1 g (.int .i64 0) (.int .i64 (turnN true wk n)) (.int .i64 1) (.int .i64 k) (.int .i64 att) (.int .i64 0) (.int .i64 0) (.int .i64 0) (.int .i64 0) (.int .i64 0) (.slice none 0 0) (.slice none 0 0)
  rw [← hw9] at hq9 hc9
  unfold wrote12 at hw9
  rw [← hw9]
  have y0 : w9.cell? ⟨g, 0, none⟩ = some (.int .i64 0) := cell_of_blk hq9
  have y1 : w9.cell? ⟨g, 1, none⟩ = some (.int .i64 (turnN true wk n)) := cell_of_blk hq9
  have y2 : w9.cell? ⟨g, 2, none⟩ = some (.int .i64 1) := cell_of_blk hq9
  have y3 : w9.cell? ⟨g, 3, none⟩ = some (.int .i64 k) := cell_of_blk hq9
  have y4 : w9.cell? ⟨g, 4, none⟩ = some (.int .i64 att) := cell_of_blk hq9
  have y5 : w9.cell? ⟨g, 5, none⟩ = some (.int .i64 0) := cell_of_blk hq9
  have y6 : w9.cell? ⟨g, 6, none⟩ = some (.int .i64 0) := cell_of_blk hq9
  have y7 : w9.cell? ⟨g, 7, none⟩ = some (.int .i64 0) := cell_of_blk hq9
  have y8 : w9.cell? ⟨g, 8, none⟩ = some (.int .i64 0) := cell_of_blk hq9
  have y9 : w9.cell? ⟨g, 9, none⟩ = some (.int .i64 0) := cell_of_blk hq9
  have y10 : w9.cell? ⟨g, 10, none⟩ = some (.slice none 0 0) := cell_of_blk hq9
  have y11 : w9.cell? ⟨g, 11, none⟩ = some (.slice none 0 0) := cell_of_blk hq9
  clear hw9 hq9 f0 z0 f1 z1 f2 z2 f3 z3 f4 z4 f5 z5 f6 z6 f7 z7 f8 z8 f9 z9 f10 z10 f11 z11
  have h3 : Below w.heap.size w w9 := Below.ch HB1.out hc9 HB1.out.size (fun k hk => by rw [hk, HG.out]; exact Nat.le_refl _)
  have HF := Aside0.mk h3
  clear h3 hc9
  refine bodyPost_ret (v := .agg #[.int .i64 0, .int .i64 (turnN true wk n), .int .i64 1, .int .i64 k, .int .i64 att, .int .i64 0, .int .i64 0, .int .i64 0, .int .i64 0, .int .i64 0, .slice none 0 0, .slice none 0 0]) ?_ rfl ⟨rfl, HF.out⟩
  simp [results, Try.results51, go_sem, *]
end
end Go.Proofs.Ytbnhhlahbhjogaa.K
