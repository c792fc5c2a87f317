/- The document's master: Hear. WRITTEN BY wip/gen_y37.py. The two masters side by side; an act of both. WRITTEN BY wip/gen_y38.py. The statement MasterScript. WRITTEN BY wip/gen_y39.py. (JOINED BY wip/merge.py.) -/
import Derived.Test.YtbnhhlahbhjogaaZ2
import Derived.Deep.MidRow
set_option linter.unusedVariables false
set_option linter.unusedSimpArgs false
set_option maxRecDepth 100000
namespace Go.Proofs.Ytbnhhlahbhjogaa.K
open Go.RowKit Go.Proofs.YtbnhhlahbhjogaaW.PrintWords Go.Proofs.YtbnhhlahbhjogaaW.PrintLast Go.Proofs.YtbnhhlahbhjogaaW.PrintMore Go.Proofs.Ytbnhhlahbhjogaa.U Go.Proofs.Ytbnhhlahbhjogaa.T

section
variable {w w' : World} {gR : Nat} {F S : Nat → Prop} {c : CfgD} {h : CfH} {m : MaS} {cv : Nat → Value} {ok : Nat → Prop}
/-- What the document's master answers. -/
def RfPostH (w : World) (gR : Nat) (F : Nat → Prop) (c : CfgD) (h : CfH) (m' : MaS) (v1 : Value) (ls : List FLet) (v2 : Value) (rs : List RecD) (w' : World) : Prop := ∃ F' A1 n1 A2 n2, v1 = .slice A1 ls.length n1 ∧ v2 = .slice A2 rs.length n2 ∧ Kd.C kLet w' A1 ls.length (ls.map FLet.d) ∧ Kd.C kRec w' A2 rs.length rs ∧ RfR w' gR F' c h m' ∧ (∀ i, F' i → F i ∨ w.heap.size ≤ i) ∧ Ch w w' F
theorem RfPostH.same (p : RfP w gR F c h m cv ok) (hb : Below w.heap.size w w') : RfPostH w gR F c h m (.slice none 0 0) [] (.slice none 0 0) [] w' :=
  ⟨F, none, 0, none, 0, rfl, rfl, C_zero _ _, C_zero _ _, ⟨cv, ok, p.below hb⟩, fun _ h => .inl h, Ch.of_below hb F⟩
theorem RfPost.toH {wA : World} (hb : Below w.heap.size w wA) {m' : MaS} {v : Value} {rs : List RecD} (hp : RfPost wA gR F c h m' v rs w') : RfPostH w gR F c h m' (.slice none 0 0) [] v rs w' := by
  obtain ⟨F', A, n, rfl, h1, h2, h3, h4⟩ := hp
  exact ⟨F', none, 0, A, n, rfl, rfl, C_zero _ _, h1, h2, fun i hi => (h3 i hi).imp id (fun hh => Nat.le_trans hb.size hh), (Ch.of_below hb F).trans h4 (fun _ _ h => h)⟩
theorem RfPostL.toH {wA : World} (hb : Below w.heap.size w wA) {m' : MaS} {v : Value} {ls : List FLet} (hp : RfPostL wA gR F c h m' v ls w') : RfPostH w gR F c h m' v ls (.slice none 0 0) [] w' := by
  obtain ⟨A, n, rfl, h1, h2, h4⟩ := hp
  exact ⟨F, A, n, none, 0, rfl, rfl, h1, C_zero _ _, h2, fun i hi => .inl hi, (Ch.of_below hb F).trans h4 (fun _ _ h => h)⟩
set_option maxHeartbeats 12800000 in
theorem rfHear (p : RfP w gR F c h m cv ok) (frm : Int) (x : MsgD) (A1 A2 : Option Addr) (c1 c2 : Nat) (hx : ∀ w', Ch w w' F → MsgC w' x A1 A2 c1 c2) (hr0 : 0 ≤ m.round) (hr1 : m.round ≤ 1000000) (hwy : m.st = 0 → m.why = 0) :
    Calls Try.prog 58 #[.pointer (some ⟨gR, 0, none⟩), .int .i64 frm, msgV x (.slice A1 x.set.length c1) (.slice A2 x.prs.length c2)] w fun e w' => ∃ v1 v2, e = .returned (.tuple #[v1, v2]) ∧ RfPostH w gR F c h (hearF c m frm x).1 v1 (hearF c m frm x).2.1 v2 (hearF c m frm x).2.2 w' := by
  obtain ⟨ls, hls⟩ : ∃ ls, ls = x.set.length := ⟨_, rfl⟩
  obtain ⟨lp, hlp⟩ : ∃ lp, lp = x.prs.length := ⟨_, rfl⟩
  obtain ⟨g, hg⟩ : ∃ g, g = w.heap.size := ⟨_, rfl⟩
  obtain ⟨wA, hwA⟩ : ∃ wA, wA = w.alloc (.cells #[.int .i64 x.k, .int .i64 x.s, .int .i64 x.a, .int .i64 x.p, .int .i64 x.q, .int .i64 x.n, .int .i64 x.e, .int .i64 x.r, .slice A1 ls c1, .slice A2 lp c2] 45) := ⟨_, rfl⟩
  have hbA : Below w.heap.size w wA := by rw [hwA]; exact (Below.refl _ _).alloc (Nat.le_refl _) _
  have hgA : wA.heap[g]? = some (.cells ([.int .i64 x.k, .int .i64 x.s, .int .i64 x.a, .int .i64 x.p, .int .i64 x.q, .int .i64 x.n, .int .i64 x.e, .int .i64 x.r, .slice A1 ls c1, .slice A2 lp c2] : List Value).toArray 45 (0, 0)) := by rw [hwA, hg]; exact alloc_at w _
  have q := p.below hbA
  have HXA : Aside0 (∀ w', Ch wA w' F → MsgC w' x A1 A2 c1 c2) := ⟨fun w' hc => hx w' ((Ch.of_below hbA F).trans hc (fun _ _ h => h))⟩
  obtain ⟨R, hR⟩ : ∃ R, R = hearF c m frm x := ⟨_, rfl⟩
  have hum := Try.underlying45
  have hul := Try.underlying51
  have hur := Try.underlying90
  have f9 := q.c_wk
  have f47 := q.c_st
  have f48 := q.c_why
  have HP := Aside0.mk p
  have HQ := Aside0.mk q
  have HLS := Aside0.mk hls
  have HLP := Aside0.mk hlp
  have HB := Aside0.mk hbA
  have HWA := Aside0.mk hwA
  have HG := Aside0.mk hg
  have HGA := Aside0.mk hgA
  have HR := Aside0.mk hR
  have HWY := Aside0.mk hwy
  have HR01 := Aside0.mk (And.intro hr0 hr1)
  rw [← hR]
  rw [← hls, ← hlp]
  unfold msgV
  have y0 : wA.cell? ⟨g, 0, none⟩ = some (.int .i64 x.k) := cell_of_blk hgA
  have y1 : wA.cell? ⟨g, 1, none⟩ = some (.int .i64 x.s) := cell_of_blk hgA
  have y2 : wA.cell? ⟨g, 2, none⟩ = some (.int .i64 x.a) := cell_of_blk hgA
  have y3 : wA.cell? ⟨g, 3, none⟩ = some (.int .i64 x.p) := cell_of_blk hgA
  have y4 : wA.cell? ⟨g, 4, none⟩ = some (.int .i64 x.q) := cell_of_blk hgA
  have y5 : wA.cell? ⟨g, 5, none⟩ = some (.int .i64 x.n) := cell_of_blk hgA
  have y6 : wA.cell? ⟨g, 6, none⟩ = some (.int .i64 x.e) := cell_of_blk hgA
  have y7 : wA.cell? ⟨g, 7, none⟩ = some (.int .i64 x.r) := cell_of_blk hgA
  have y8 : wA.cell? ⟨g, 8, none⟩ = some (.slice A1 ls c1) := cell_of_blk hgA
  have y9 : wA.cell? ⟨g, 9, none⟩ = some (.slice A2 lp c2) := cell_of_blk hgA
  clear p q hx hls hlp hwA hg hbA hgA hR hwy hr0 hr1
  go_enter Try.func58, Try.ntmps58
  go_upto_region 1 with (fail)
  rw [show w.alloc (.cells #[.int .i64 x.k, .int .i64 x.s, .int .i64 x.a, .int .i64 x.p, .int .i64 x.q, .int .i64 x.n, .int .i64 x.e, .int .i64 x.r, .slice A1 ls c1, .slice A2 lp c2] 45) = wA from HWA.out.symm, ← HG.out]
  by_cases hf0 : frm < 1
  · have hf0' := decide_eq_true hf0
    have HE : Aside0 (R = (m, [], [])) := ⟨by rw [HR.out]; unfold hearF; rw [if_pos (.inl hf0)]⟩
    go_wp2_with fail
    go_ret2
    exact ⟨_, _, rfl, by rw [HE.out]; exact RfPostH.same HP.out HB.out⟩
  have hf0' := decide_eq_false hf0
  by_cases hf1 : c.workers < frm
  · have hf1' := decide_eq_true hf1
    have HE : Aside0 (R = (m, [], [])) := ⟨by rw [HR.out]; unfold hearF; rw [if_pos (.inr hf1)]⟩
    go_wp2_with fail
    go_ret2
    exact ⟨_, _, rfl, by rw [HE.out]; exact RfPostH.same HP.out HB.out⟩
  have hf1' := decide_eq_false hf1
  have HF0 : Aside0 (1 ≤ frm) := ⟨by omega⟩
  have HF1 : Aside0 (frm ≤ c.workers) := ⟨by omega⟩
  by_cases hs : m.st = 0
  case' neg =>
    have hs' : (m.st != 0) = true := by simpa using hs
    have HE : Aside0 (R = (m, [⟨frm, 9, 0, 0, 0, 0, m.why⟩], [])) := ⟨by rw [HR.out]; unfold hearF; rw [if_neg (by omega), if_pos hs]⟩
    have HEN : Aside0 (∀ wZ, wZ = wA.alloc (.cells #[.int .i64 0, .int .i64 frm, .int .i64 9, .int .i64 0, .int .i64 0, .int .i64 0, .int .i64 0, .int .i64 0, .int .i64 0, .int .i64 m.why, .slice none 0 0, .slice none 0 0] 51) → RfPostH w gR F c h R.1 (.slice (some ⟨wA.heap.size, 0, none⟩) 1 1) R.2.1 (.slice none 0 0) R.2.2 wZ) := ⟨fun wZ hZ => by
      have hb : HeldN wA wZ := by rw [hZ]; exact (Below.refl _ _).alloc (Nat.le_refl _) _
      have hC : Kd.C kLet wZ (some ⟨wA.heap.size, 0, none⟩) 1 [(⟨frm, 9, 0, 0, 0, 0, m.why⟩ : FLet).d] := by rw [hZ]; exact let_C (A1 := none) (A2 := none) (c1 := 0) (c2 := 0) ⟨C_zero _ _, C_zero _ _, Nat.le_refl _, Nat.le_refl _⟩ (alloc_at wA _)
      rw [HE.out]
      exact ⟨F, _, 1, none, 0, rfl, rfl, hC, C_zero _ _, ⟨_, _, HQ.out.below hb⟩, fun _ h => .inl h, Ch.of_below (S := F) (below_then HB.out HB.out.size hb)⟩⟩
    go_wp2_with fail
    go_ret2
    exact ⟨_, _, rfl, HEN.out _ rfl⟩
  have HST := Aside0.mk hs
  rw [hs] at f47
  clear hs hf0 hf1
  by_cases hk4 : x.k = 4
  · have HK := Aside0.mk hk4
    rw [hk4] at y0
    have HD := Aside0.mk (rfDone HQ.out x A1 A2 c1 c2 HXA.out)
    rw [← HLS.out, ← HLP.out] at HD
    unfold msgV at HD
    rw [hk4] at HD
    clear hk4
    have HE : Aside0 (R.1 = (doneR m x (doneK c m x)).1 ∧ R.2.1 = [] ∧ R.2.2 = (doneR m x (doneK c m x)).2) := ⟨by
      rw [HR.out, hearF_ok c m frm x HF0.out HF1.out HST.out]
      simp only [hearK, HK.out]
      unfold doneR
      cases doneK c m x <;> exact ⟨rfl, rfl, rfl⟩⟩
    go_wp2_with fail
    refine HD.out.mono ?_
    rintro e w5 ⟨v, rfl, hp5⟩
    have HP5 := Aside0.mk (hp5.toH HB.out)
    clear hp5
    go_wp2_with fail
    go_ret2
    exact ⟨_, _, rfl, by rw [HE.out.1, HE.out.2.1, HE.out.2.2]; exact HP5.out⟩
  have hkb4 : (x.k == 4) = false := by simpa using hk4
  have HK4 := Aside0.mk hk4
  clear hk4
  by_cases hk5 : x.k = 5
  · have HK := Aside0.mk hk5
    rw [hk5] at y0
    clear hk5 hkb4
    have HE0 : Aside0 (R = if (openN m x.s).isSome = true ∧ 1 ≤ x.r ∧ x.r ≤ 6 then (endS m 2 x.r, [], [⟨3, 0, x.s, 0, x.r, [], []⟩]) else (m, [], [])) := ⟨by
      rw [HR.out, hearF_ok c m frm x HF0.out HF1.out HST.out]
      simp only [hearK, HK.out]
      rfl⟩
    by_cases h0 : 0 ≤ x.s ∧ x.s < (m.sp.length : Int)
    case' neg =>
      have HHB : Aside0 (false = decide (0 ≤ x.s ∧ x.s < (m.sp.length : Int))) := ⟨(decide_eq_false h0).symm⟩
      have HE : Aside0 (R = (m, [], [])) := ⟨by rw [HE0.out, show openN m x.s = none from by unfold openN; rw [if_neg (fun hh => h0 ⟨hh.1, hh.2.1⟩)]]; rfl⟩
      clear h0
      have HHAS : Aside0 (∀ w', HeldN wA w' → Calls Try.prog 55 #[.pointer (some ⟨gR, 0, none⟩), .int .i64 x.s] w' fun e w'' => e = .returned (.bool false) ∧ w'' = w') := ⟨fun w' hw => rfHas (HQ.out.below hw) _ false HHB.out⟩
      go_upto_region 9 with (fail)
      go_quiet ((go_at_call 55; exact (HHAS.out _ (pw_below_drewN (Below.refl _ _) _)).mono (fun e w' h => ⟨h.1, _, h.2⟩)))
      go_wp2_with fail
      go_ret2
      exact ⟨_, _, rfl, by rw [HE.out]; exact RfPostH.same HP.out (below_then HB.out HB.out.size (pw_below_drewN (Below.refl _ _) _))⟩
    have HHB : Aside0 (true = decide (0 ≤ x.s ∧ x.s < (m.sp.length : Int))) := ⟨(decide_eq_true h0).symm⟩
    obtain ⟨k, hk⟩ : ∃ k : Nat, x.s = k := ⟨x.s.toNat, by omega⟩
    have hkl : k < m.sp.length := by omega
    have hk6 : k < 6 := by have := HQ.out.len; have := HQ.out.n6; omega
    have hkI : (k : Int) < 6 := by omega
    have hk0 : (0 : Int) ≤ (k : Int) := by omega
    have HHB := hk ▸ HHB
    rw [hk] at y1
    have HGA : Aside0 (wA.heap[g]? = some (.cells ([.int .i64 (5 : Int), .int .i64 (k : Int), .int .i64 x.a, .int .i64 x.p, .int .i64 x.q, .int .i64 x.n, .int .i64 x.e, .int .i64 x.r, .slice A1 ls c1, .slice A2 lp c2] : List Value).toArray 45 (0, 0))) := ⟨by have := HGA.out; rw [hk, HK.out] at this; exact this⟩
    obtain ⟨z, hz⟩ : ∃ z, z = wonI (S_ m k) := ⟨_, rfl⟩
    have hwz := wonI_zero HQ.out k
    have f31 := HQ.out.c_won k hk6
    rw [← hz] at hwz f31
    have a31 := add13 gR 31 k
    have HKE := Aside0.mk hk
    have HOPN : Aside0 ((openN m x.s).isSome = true ↔ (S_ m k).won = false) := ⟨by
      unfold openN
      rw [hk, Int.toNat_natCast]
      by_cases hw : (m.sp.getD k zeroS).won = false
      · rw [if_pos ⟨by omega, by omega, hw⟩]
        exact ⟨fun _ => hw, fun _ => rfl⟩
      · rw [if_neg (fun hh => hw hh.2.2)]
        exact ⟨(fun hh => by cases hh), fun hh => absurd hh hw⟩⟩
    clear hkl hk6 h0 hz hk
    by_cases hw : (S_ m k).won = false
    case' neg =>
      have hz0 : ¬ z = 0 := fun hh => hw (hwz.1 hh)
      have hz1 : (z == 0) = false := beq_eq_false_iff_ne.2 hz0
      have HE : Aside0 (R = (m, [], [])) := ⟨by rw [HE0.out, if_neg (fun hh => hw (HOPN.out.1 hh.1))]⟩
      clear hw hwz
      have HHAS : Aside0 (∀ w', HeldN wA w' → Calls Try.prog 55 #[.pointer (some ⟨gR, 0, none⟩), .int .i64 (k : Int)] w' fun e w'' => e = .returned (.bool true) ∧ w'' = w') := ⟨fun w' hw => rfHas (HQ.out.below hw) _ true HHB.out⟩
      go_upto_region 9 with (fail)
      go_quiet ((go_at_call 55; exact (HHAS.out _ (pw_below_drewN (Below.refl _ _) _)).mono (fun e w' h => ⟨h.1, _, h.2⟩)))
      go_wp2_with fail
      go_ret2
      exact ⟨_, _, rfl, by rw [HE.out]; exact RfPostH.same HP.out (below_then HB.out HB.out.size (pw_below_drewN (Below.refl _ _) _))⟩
    have hz0 : z = 0 := hwz.2 hw
    have HOS := Aside0.mk (HOPN.out.2 hw)
    have hz1 : (z == 0) = true := by rw [hz0]; rfl
    clear hw hwz
    by_cases hr1 : 1 ≤ x.r
    case' neg =>
      have hr1' := decide_eq_false hr1
      have HE : Aside0 (R = (m, [], [])) := ⟨by rw [HE0.out, if_neg (fun hh => hr1 hh.2.1)]⟩
      have HHAS : Aside0 (∀ w', HeldN wA w' → Calls Try.prog 55 #[.pointer (some ⟨gR, 0, none⟩), .int .i64 (k : Int)] w' fun e w'' => e = .returned (.bool true) ∧ w'' = w') := ⟨fun w' hw => rfHas (HQ.out.below hw) _ true HHB.out⟩
      go_upto_region 9 with (fail)
      go_quiet ((go_at_call 55; exact (HHAS.out _ (pw_below_drewN (Below.refl _ _) _)).mono (fun e w' h => ⟨h.1, _, h.2⟩)))
      go_wp2_with fail
      go_ret2
      exact ⟨_, _, rfl, by rw [HE.out]; exact RfPostH.same HP.out (below_then HB.out HB.out.size (pw_below_drewN (Below.refl _ _) _))⟩
    have hr1' := decide_eq_true hr1
    by_cases hr2 : x.r ≤ 6
    case' neg =>
      have hr2' := decide_eq_false hr2
      have HE : Aside0 (R = (m, [], [])) := ⟨by rw [HE0.out, if_neg (fun hh => hr2 hh.2.2)]⟩
      have HHAS : Aside0 (∀ w', HeldN wA w' → Calls Try.prog 55 #[.pointer (some ⟨gR, 0, none⟩), .int .i64 (k : Int)] w' fun e w'' => e = .returned (.bool true) ∧ w'' = w') := ⟨fun w' hw => rfHas (HQ.out.below hw) _ true HHB.out⟩
      go_upto_region 9 with (fail)
      go_quiet ((go_at_call 55; exact (HHAS.out _ (pw_below_drewN (Below.refl _ _) _)).mono (fun e w' h => ⟨h.1, _, h.2⟩)))
      go_wp2_with fail
      go_ret2
      exact ⟨_, _, rfl, by rw [HE.out]; exact RfPostH.same HP.out (below_then HB.out HB.out.size (pw_below_drewN (Below.refl _ _) _))⟩
    have hr2' := decide_eq_true hr2
    have HE : Aside0 (R = (endS m 2 x.r, [], [⟨3, 0, k, 0, x.r, [], []⟩])) := ⟨by rw [HE0.out, if_pos ⟨HOS.out, hr1, hr2⟩, HKE.out]⟩
    have HHAS : Aside0 (∀ w', HeldN wA w' → Calls Try.prog 55 #[.pointer (some ⟨gR, 0, none⟩), .int .i64 (k : Int)] w' fun e w'' => e = .returned (.bool true) ∧ w'' = w') := ⟨fun w' hw => rfHas (HQ.out.below hw) _ true HHB.out⟩
    go_upto_region 9 with (fail)
    go_quiet ((go_at_call 55; exact (HHAS.out _ (pw_below_drewN (Below.refl _ _) _)).mono (fun e w' h => ⟨h.1, _, h.2⟩)))
    obtain ⟨wq, hwq⟩ : ∃ wq, wq = wA.drewN nq := ⟨_, rfl⟩
    have hbq : HeldN wA wq := by rw [hwq]; exact pw_below_drewN (Below.refl wA.heap.size wA) _
    rw [← hwq]
    have HQ := Aside0.mk (HQ.out.below hbq)
    have HGQ := Aside0.mk ((hbq.block g (blk_lt' HGA.out)).trans HGA.out)
    have HBQ := Aside0.mk (below_then HB.out HB.out.size hbq)
    have HGF : Aside0 (¬ F g) := ⟨fun hh => by have := HP.out.flt _ hh; have := HG.out; omega⟩
    clear hwq hbq HHAS hf0' hf1' y0 y1 y2 y3 y4 y5 y6 y7 y8 y9 f9 f47 f48 f31 a31 hr1 hr2 hr1' hr2' hz1
    subst hz0
    have y7 : wq.cell? ⟨g, 7, none⟩ = some (.int .i64 x.r) := cell_of_blk HGQ.out
    have d7 : wq.drew.cell? ⟨g, 7, none⟩ = some (.int .i64 x.r) := y7
    have f47 := HQ.out.c_st
    have f48 := HQ.out.c_why
    have z47 := HQ.out.fr 47
    have z48 := HQ.out.fr 48
    go_upto_region 10 with (fail)
    go_region
    all_goals
      obtain ⟨w5, hw5⟩ : ∃ w5, w5 = ((wq.setCell ⟨gR, 47, none⟩ (.int .i64 2)).setCell ⟨gR, 48, none⟩ (.int .i64 x.r)).drew := ⟨_, rfl⟩
      rw [← hw5]
      have hp := ((HQ.out.put 47 (.int .i64 2) { m with st := 2 } rfl rfl (fun _ => ⟨rfl, rfl, rfl⟩) HQ.out.rd).put 48 (.int .i64 x.r) (endS m 2 x.r) rfl rfl (fun _ => ⟨rfl, rfl, rfl⟩) HQ.out.rd).below (below_drew _)
      have hc : Ch wq w5 F := by rw [hw5]; exact (((Ch.refl wq F).setCell _ _ HQ.out.fR).setCell _ _ HQ.out.fR).trans (Ch.of_below (S := F) (below_drew _)) (fun _ _ h => h)
      rw [← hw5] at hp
      have hG5 := hc.blk HGQ.out HGF.out
      have e1 : w5.cell? ⟨g, 1, none⟩ = some (.int .i64 (k : Int)) := cell_of_blk hG5
      have e7 : w5.cell? ⟨g, 7, none⟩ = some (.int .i64 x.r) := cell_of_blk hG5
      have r1 : w5.drew.cell? ⟨g, 1, none⟩ = some (.int .i64 (k : Int)) := e1
      have r7 : w5.drew.cell? ⟨g, 7, none⟩ = some (.int .i64 x.r) := e7
      have HP5 := Aside0.mk hp
      have HC5 := Aside0.mk ((Ch.of_below (S := F) HBQ.out).trans hc (fun _ _ h => h))
      have HEN : Aside0 (∀ wZ gz, HeldN w5 wZ → wZ.heap[gz]? = some (.cells ([.int .i64 3, .int .i64 0, .int .i64 (k : Int), .int .i64 0, .int .i64 x.r, .slice none 0 0, .slice none 0 0] : List Value).toArray 90 (0, 0)) → RfPostH w gR F c h R.1 (.slice none 0 0) R.2.1 (.slice (some ⟨gz, 0, none⟩) 1 1) R.2.2 wZ) := ⟨fun wZ gz hb hZ => by
        rw [HE.out]
        exact (rec_post (w := w) (HP5.out.below hb) (HC5.out.trans (Ch.of_below (S := F) hb) (fun _ _ h => h)) 3 0 k 0 x.r gz hZ).toH (Below.refl _ _)⟩
      clear hp hc hG5 hw5 y7 d7 f47 f48 z47 z48
      go_upto_region 11 with (fail)
      go_region
      all_goals
        go_wp2_with fail
        go_ret2
        first
          | exact ⟨_, _, rfl, HEN.out _ _ (HeldN.then_ (w := w5) ((Below.refl _ _).alloc (Nat.le_refl _) _) (below_drew _)) (alloc_at w5 _)⟩
          | exact ⟨_, _, rfl, HEN.out _ _ (HeldN.then_ (w := w5) (below_drew _) ((Below.refl _ _).alloc (Nat.le_refl _) _)) (alloc_at w5.drew _)⟩
  have hkb5 : (x.k == 5) = false := by simpa using hk5
  have HK5 := Aside0.mk hk5
  clear hk5
  by_cases hk6 : x.k = 6
  · have HK := Aside0.mk hk6
    rw [hk6] at y0
    have HD := Aside0.mk (rfHello HQ.out frm x A1 A2 c1 c2 lp (HXA.out _ (Ch.refl _ _)).s HR01.out.1 HR01.out.2)
    rw [← HLS.out] at HD
    unfold msgV at HD
    rw [hk6] at HD
    clear hk6
    have HE : Aside0 (R.1 = (helloR c m frm x).1 ∧ R.2.1 = (helloR c m frm x).2 ∧ R.2.2 = []) := ⟨by
      rw [HR.out, hearF_ok c m frm x HF0.out HF1.out HST.out]
      simp only [hearK, HK.out]
      unfold helloR
      show (if 0 ≤ x.p ∧ x.p < c.job.parts then _ else _ : MaS × List FLet × List RecD).1 = _ ∧ _
      by_cases hh : 0 ≤ x.p ∧ x.p < c.job.parts
      · simp [hh]
      · simp [hh]⟩
    go_wp2_with fail
    refine HD.out.mono ?_
    rintro e w5 ⟨v, rfl, hp5⟩
    have HP5 := Aside0.mk (hp5.toH HB.out)
    clear hp5
    go_wp2_with fail
    go_ret2
    exact ⟨_, _, rfl, by rw [HE.out.1, HE.out.2.1, HE.out.2.2]; exact HP5.out⟩
  have hkb6 : (x.k == 6) = false := by simpa using hk6
  have HK6 := Aside0.mk hk6
  clear hk6
  by_cases hk8 : x.k = 8
  · have HK := Aside0.mk hk8
    rw [hk8] at y0
    have HD := Aside0.mk (rfReady HQ.out (HWY.out HST.out) x A1 A2 c1 c2 ls lp)
    rw [hk8] at HD
    clear hk8
    have HE : Aside0 (R.1 = (readyR c m x).1 ∧ R.2.1 = [] ∧ R.2.2 = (readyR c m x).2) := ⟨by
      rw [HR.out, hearF_ok c m frm x HF0.out HF1.out HST.out]
      simp only [hearK, HK.out]
      unfold readyR
      show (if 0 ≤ x.p ∧ x.p < c.job.parts then _ else _ : MaS × List FLet × List RecD).1 = _ ∧ _
      by_cases hh : 0 ≤ x.p ∧ x.p < c.job.parts
      · simp [hh]
      · simp [hh]⟩
    go_wp2_with fail
    refine HD.out.mono ?_
    rintro e w5 ⟨v, rfl, hp5⟩
    have HP5 := Aside0.mk (hp5.toH HB.out)
    clear hp5
    go_wp2_with fail
    go_ret2
    exact ⟨_, _, rfl, by rw [HE.out.1, HE.out.2.1, HE.out.2.2]; exact HP5.out⟩
  have hkb8 : (x.k == 8) = false := by simpa using hk8
  have HK8 := Aside0.mk hk8
  clear hk8
  have HE : Aside0 (R = (m, [], [])) := ⟨by rw [HR.out, hearF_ok c m frm x HF0.out HF1.out HST.out, hearK_other c m frm x HK4.out HK5.out HK6.out HK8.out]⟩
  go_wp2_with fail
  go_ret2
  exact ⟨_, _, rfl, by rw [HE.out]; exact RfPostH.same HP.out HB.out⟩
end
end Go.Proofs.Ytbnhhlahbhjogaa.K
namespace Go.Proofs.Ytbnhhlahbhjogaa.K
open Go.RowKit Go.Proofs.YtbnhhlahbhjogaaW.PrintWords Go.Proofs.YtbnhhlahbhjogaaW.PrintLast Go.Proofs.YtbnhhlahbhjogaaW.PrintMore Go.Proofs.Ytbnhhlahbhjogaa.U Go.Proofs.Ytbnhhlahbhjogaa.T

section
variable {w w' : World} {gR : Nat} {F S : Nat → Prop} {c : CfgD} {h : CfH} {m : MaS}
theorem rrTick (p : RfR w gR F c h m) (h0 : 0 ≤ m.now) (h1 : m.now ≤ 1099511627776) : Calls Try.prog 56 #[.pointer (some ⟨gR, 0, none⟩)] w fun e w' => e = .returned (.tuple #[]) ∧ RfR w' gR F c h { m with now := min (m.now + 1) 1099511627776 } ∧ Ch w w' F := by
  obtain ⟨_, _, p⟩ := p
  exact (rfTick p h0 h1).mono (fun e w' h => ⟨h.1, ⟨_, _, h.2.1⟩, h.2.2⟩)
theorem rrWinners (p : RfR w gR F c h m) : Calls Try.prog 31 #[.pointer (some ⟨gR, 0, none⟩)] w fun e w' => ∃ v, e = .returned v ∧ Own kI 3 w' w.heap.size v (winners m) ∧ Below w.heap.size w w' := by
  obtain ⟨_, _, p⟩ := p
  exact rfWinners p
theorem rrWake (p : RfR w gR F c h m) (B : Int) (hB : MaB m B) (hB6 : B ≤ 1000000) : Calls Try.prog 57 #[.pointer (some ⟨gR, 0, none⟩)] w fun e w' => ∃ v, e = .returned v ∧ RfR w' gR F c h (wakeF c m).1 ∧ LetsP w' w.heap.size v (wakeF c m).2 ∧ Ch w w' F := by
  obtain ⟨_, _, p⟩ := p
  refine (rfWake p B hB hB6).mono ?_
  rintro e w' ⟨v, rfl, h1, h2, h3⟩
  exact ⟨v, rfl, ⟨_, _, h1⟩, h2, h3⟩
theorem rrHear (p : RfR w gR F c h m) (frm : Int) (x : MsgD) (A1 A2 : Option Addr) (c1 c2 : Nat) (hx : ∀ w', Ch w w' F → MsgC w' x A1 A2 c1 c2) (hr0 : 0 ≤ m.round) (hr1 : m.round ≤ 1000000) (hwy : m.st = 0 → m.why = 0) :
    Calls Try.prog 58 #[.pointer (some ⟨gR, 0, none⟩), .int .i64 frm, msgV x (.slice A1 x.set.length c1) (.slice A2 x.prs.length c2)] w fun e w' => ∃ v1 v2, e = .returned (.tuple #[v1, v2]) ∧ RfPostH w gR F c h (hearF c m frm x).1 v1 (hearF c m frm x).2.1 v2 (hearF c m frm x).2.2 w' := by
  obtain ⟨_, _, p⟩ := p
  exact rfHear p frm x A1 A2 c1 c2 hx hr0 hr1 hwy
end
/-- Both masters, each in blocks of its own. -/
structure TwoM (W w : World) (gM gR : Nat) (F G : Nat → Prop) (c : CfgD) (h : CfH) (m m2 : MaS) : Prop where
  ma : MaR w gM F c m
  rf : RfR w gR G c h m2
  dis : ∀ k, F k → ¬ G k
  loF : ∀ k, F k → W.heap.size ≤ k
  loG : ∀ k, G k → W.heap.size ≤ k
  bel : Below W.heap.size W w
  job : JobH W c.job h
section
variable {W w w' : World} {gM gR : Nat} {F G S : Nat → Prop} {c : CfgD} {h : CfH} {m m2 m' : MaS}
theorem TwoM.chx {S : Nat → Prop} (t : TwoM W w gM gR F G c h m m2) (hc : Ch w w' S) (hS : ∀ k, S k → ¬ F k ∧ ¬ G k ∧ W.heap.size ≤ k) : TwoM W w' gM gR F G c h m m2 := by
  have hb : Below W.heap.size W w' := Below.ch t.bel hc t.bel.size (fun k hk => (hS k hk).2.2)
  exact ⟨t.ma.ch hc (fun k hk hs => (hS k hs).1 hk), t.rf.ch hc (fun k hk hs => (hS k hs).2.1 hk) (fun w2 hc2 => JobC.below t.job (Below.ch hb hc2 hb.size t.loG)), t.dis, t.loF, t.loG, hb, t.job⟩
theorem TwoM.below (t : TwoM W w gM gR F G c h m m2) (hb : Below w.heap.size w w') : TwoM W w' gM gR F G c h m m2 := t.chx (Ch.of_below hb (fun _ => False)) (fun _ h => h.elim)
/-- The program's master has been called. -/
theorem TwoM.left {F' : Nat → Prop} (t : TwoM W w gM gR F G c h m m2) (hm : MaR w' gM F' c m') (hF : ∀ k, F' k → F k ∨ w.heap.size ≤ k) (hc : Ch w w' F) : TwoM W w' gM gR F' G c h m' m2 := by
  have hb : Below W.heap.size W w' := Below.ch t.bel hc t.bel.size t.loF
  refine ⟨hm, t.rf.ch hc (fun k hk hs => t.dis k hs hk) (fun w2 hc2 => JobC.below t.job (Below.ch hb hc2 hb.size t.loG)), fun k hk hg => ?_, fun k hk => ?_, t.loG, hb, t.job⟩
  · rcases hF k hk with h1 | h1
    · exact t.dis k h1 hg
    · have := t.rf.flt k hg; omega
  · rcases hF k hk with h1 | h1
    · exact t.loF k h1
    · exact Nat.le_trans t.bel.size h1
/-- The document's master has been called. -/
theorem TwoM.right {G' : Nat → Prop} (t : TwoM W w gM gR F G c h m m2) (hm : RfR w' gR G' c h m') (hG : ∀ k, G' k → G k ∨ w.heap.size ≤ k) (hc : Ch w w' G) : TwoM W w' gM gR F G' c h m m' := by
  have hb : Below W.heap.size W w' := Below.ch t.bel hc t.bel.size t.loG
  refine ⟨t.ma.ch hc (fun k hk hs => t.dis k hk hs), hm, fun k hk hg => ?_, t.loF, fun k hk => ?_, hb, t.job⟩
  · rcases hG k hg with h1 | h1
    · exact t.dis k hk h1
    · have := t.ma.flt k hk; omega
  · rcases hG k hk with h1 | h1
    · exact t.loG k h1
    · exact Nat.le_trans t.bel.size h1
/-- Letters that neither master knows of. -/
def LetA (W w : World) (v : Value) (ls : List FLet) (F G : Nat → Prop) : Prop := LetsP w W.heap.size v ls ∧ ∀ i, v.ownBlock = some i → ¬ F i ∧ ¬ G i ∧ W.heap.size ≤ i
theorem LetA.below {v : Value} {ls : List FLet} (h : LetA W w v ls F G) (hb : Below w.heap.size w w') : LetA W w' v ls F G := ⟨h.1.below hb, h.2⟩
theorem LetA.nil : LetA W w (.slice none 0 0) [] F G := ⟨LetsP.nil _ _, fun i hi => by cases hi⟩
theorem LetA.over {v : Value} {ls : List FLet} (h : LetA W w v ls F G) (hl : ls.length ≤ 100 ∧ W.heap.size ≤ w.heap.size) : Calls Try.prog 59 #[v] w fun e w' => e = .returned (.tuple #[]) ∧ Ch w w' (fun i => v.ownBlock = some i) := by
  refine (overLetters2 v (ls.map fz) (fun _ => none) W.heap.size w h.1.list hl.2 (by rw [List.length_map]; omega) (fun z hz => ?_)).mono ?_
  · obtain ⟨x, _, rfl⟩ := List.mem_map.1 hz
    exact ⟨Nat.zero_le _, Nat.zero_le _⟩
  · rintro e w' ⟨rfl, hc⟩
    refine ⟨rfl, hc.mono (fun i hi => ?_)⟩
    rcases hi.2 with h1 | h1
    · exact h1
    · exact absurd rfl h1
/-- Records that neither master knows of; or none. -/
def RecA (W w : World) (v : Value) (rs : List RecD) (F G : Nat → Prop) : Prop := (rs = [] ∧ ∃ A n, v = .slice A 0 n) ∨ ∃ zs ow B, RListP w B v zs ow ∧ zs.map (·.x) = rs ∧ B ≤ w.heap.size ∧ ∀ i, B ≤ i → (v.ownBlock = some i ∨ ow i ≠ none) → ¬ F i ∧ ¬ G i ∧ W.heap.size ≤ i
theorem RecA.nil (A : Option Addr) (n : Nat) : RecA W w (.slice A 0 n) [] F G := .inl ⟨rfl, A, n, rfl⟩
theorem RListP.chr {base : Nat} {v : Value} {zs : List RecZ} {ow : Nat → Option Nat} (h : RListP w base v zs ow) (hc : Ch w w' S) (hS : ∀ i, base ≤ i → (v.ownBlock = some i ∨ ow i ≠ none) → ¬ S i) : RListP w' base v zs ow where
  row := h.row.ch flat_RR hc (fun i hi => hS i (Own.base_ h.row i hi) (.inl hi))
  sets j hj := Kd.R_mono (Kd.R_step (Kd.R_bound (h.sets j hj)) (fun i hi hlt => hc.block i hlt (hS i hi.2.1 (.inr (by rw [hi.1]; simp))))) (fun i hi => hi.1)
  prs j hj := Kd.R_mono (Kd.R_step (Kd.R_bound (h.prs j hj)) (fun i hi hlt => hc.block i hlt (hS i hi.2.1 (.inr (by rw [hi.1]; simp))))) (fun i hi => hi.1)
  out := h.out
  lt k hk := Nat.lt_of_lt_of_le (h.lt k hk) hc.size
theorem RecA.below {v : Value} {rs : List RecD} (h : RecA W w v rs F G) (hb : Below w.heap.size w w') : RecA W w' v rs F G := by
  rcases h with h | ⟨zs, ow, B, h1, h2, h3, h4⟩
  · exact .inl h
  · exact .inr ⟨zs, ow, B, h1.chr (Ch.of_below hb (fun _ => False)) (fun _ _ _ hh => hh), h2, Nat.le_trans h3 hb.size, h4⟩
theorem overL_none (A : Option Addr) (n : Nat) (w : World) : Calls Try.prog 59 #[.slice A 0 n] w fun e w' => e = .returned (.tuple #[]) ∧ w' = w := by
  go_enter Try.func59, Try.ntmps59
  go_wp2_with fail
  go_loopg [2] 1 (fun kq v2 w' => v2 = .int .i64 0 ∧ w' = w)
  case atStart => exact ⟨rfl, rfl⟩
  case round =>
    obtain ⟨rfl, rfl⟩ := hrel
    go_wp2_with fail
    go_end0
    exact ⟨rfl, rfl⟩
theorem overR_none (A : Option Addr) (n : Nat) (w : World) : Calls Try.prog 28 #[.slice A 0 n] w fun e w' => e = .returned (.tuple #[]) ∧ w' = w := by
  go_enter Try.func28, Try.ntmps28
  go_wp2_with fail
  go_loopg [2] 1 (fun kq v2 w' => v2 = .int .i64 0 ∧ w' = w)
  case atStart => exact ⟨rfl, rfl⟩
  case round =>
    obtain ⟨rfl, rfl⟩ := hrel
    go_wp2_with fail
    go_end0
    exact ⟨rfl, rfl⟩
theorem RecA.over {v : Value} {rs : List RecD} (h : RecA W w v rs F G) (hl : rs.length ≤ 100) (hs : ∀ r ∈ rs, r.set.length ≤ 1000 ∧ r.prs.length ≤ 1000) : Calls Try.prog 28 #[v] w fun e w' => e = .returned (.tuple #[]) ∧ Ch w w' (fun i => ¬ F i ∧ ¬ G i ∧ W.heap.size ≤ i) := by
  rcases h with ⟨rfl, A, n, rfl⟩ | ⟨zs, ow, B, h1, rfl, h3, h4⟩
  · refine (overR_none A n w).mono ?_
    rintro e w' ⟨rfl, rfl⟩
    exact ⟨rfl, Ch.refl _ _⟩
  · rw [List.length_map] at hl
    refine (overRecords2 v zs ow B w h1 h3 (by omega) (fun z hz => ?_)).mono ?_
    · have := hs z.x (List.mem_map_of_mem hz)
      omega
    · rintro e w' ⟨rfl, hc⟩
      exact ⟨rfl, hc.mono (fun i hi => h4 i hi.1 hi.2)⟩
end
/-- While no end was told there is no reason. -/
def Fine (m : MaS) : Prop := m.st = 0 → m.why = 0
theorem Fine.hear {c : CfgD} {m : MaS} (hf : Fine m) (frm : Int) (x : MsgD) : Fine (hearF c m frm x).1 := by
  have hE : ∀ m1 st why, st ≠ 0 → Fine (endS m1 st why) := fun m1 st why hs e => absurd e hs
  unfold hearF
  split
  · exact hf
  · split
    · exact hf
    · unfold hearK
      split
      · cases doneK c m x with
        | none => exact hf
        | some k => exact hf
      · split
        · split
          · exact hE m 2 x.r (by decide)
          · exact hf
        · split
          · split
            · show Fine (helloF c m frm x).1
              unfold helloF
              split <;> exact hf
            · exact hf
          · split
            · split
              · show Fine (wholeF c m x).1
                unfold wholeF
                split
                · exact hf
                · split
                  · exact hE m 2 x.r (by decide)
                  · split
                    · exact hf
                    · split
                      · exact hf
                      · exact hE _ 1 0 (by decide)
              · exact hf
            · exact hf
theorem Fine.step {c : CfgD} {m : MaS} (hf : Fine m) (a : MActD) : Fine (stepM c m a).1 := by
  unfold stepM
  split
  · exact hf
  · split
    · have hl := wake_like c m
      intro e
      rw [hl.st] at e
      rw [hl.why]
      exact hf e
    · split
      · exact hf.hear a.fr a.m
      · exact hf
theorem wakeUp_len (c : CfgD) (m : MaS) (k : Nat) : (wakeUp c m k).2.length ≤ k := by
  induction k with
  | zero => exact Nat.le_refl _
  | succ k ih =>
    unfold wakeUp
    split
    · omega
    · rw [List.length_append, List.length_singleton]; omega
theorem wake_len (c : CfgD) (m : MaS) : (wakeF c m).2.length ≤ m.sp.length := by
  unfold wakeF
  split
  · exact wakeUp_len c m _
  · exact Nat.zero_le _
theorem hear_len (c : CfgD) (m : MaS) (frm : Int) (x : MsgD) : (hearF c m frm x).2.1.length ≤ m.sp.length + 1 := by
  unfold hearF
  split
  · exact Nat.zero_le _
  · split
    · show 1 ≤ _; omega
    · unfold hearK
      split
      · cases doneK c m x with
        | none => exact Nat.zero_le _
        | some k => exact Nat.zero_le _
      · split
        · split <;> exact Nat.zero_le _
        · split
          · split
            · show (helloF c m frm x).2.length ≤ _
              unfold helloF
              split
              · exact Nat.zero_le _
              · rw [lkR_all, List.length_append, List.length_map, List.length_singleton]
                have := lkR_len m x.set m.sp.length
                omega
            · exact Nat.zero_le _
          · split
            · split <;> exact Nat.zero_le _
            · exact Nat.zero_le _
theorem hear_small (c : CfgD) (m : MaS) (frm : Int) (x : MsgD) (hx : x.set.length ≤ 20) (r : RecD) (hr : r ∈ (hearF c m frm x).2.2) : r.set.length ≤ 1000 ∧ r.prs.length ≤ 1000 := by
  have key : ∀ (q : RecD), q.set.length ≤ 20 → q.prs = [] → q.set.length ≤ 1000 ∧ q.prs.length ≤ 1000 := fun q h1 h2 => ⟨by omega, by rw [h2]; exact Nat.zero_le _⟩
  unfold hearF at hr
  split at hr
  · cases hr
  · split at hr
    · cases hr
    · unfold hearK at hr
      split at hr
      · cases hd : doneK c m x with
        | none => rw [hd] at hr; cases hr
        | some k =>
          rw [hd] at hr
          rw [List.mem_singleton.1 hr]
          exact key _ hx rfl
      · split at hr
        · split at hr
          · rw [List.mem_singleton.1 hr]
            exact key _ (Nat.zero_le _) rfl
          · cases hr
        · split at hr
          · split at hr <;> cases hr
          · split at hr
            · split at hr
              · have hr : r ∈ (wholeF c m x).2 := hr
                unfold wholeF at hr
                split at hr
                · cases hr
                · split at hr
                  · rw [List.mem_singleton.1 hr]
                    exact key _ (Nat.zero_le _) rfl
                  · split at hr
                    · cases hr
                    · split at hr
                      · cases hr
                      · rw [List.mem_singleton.1 hr]
                        exact key _ (Nat.zero_le _) rfl
              · cases hr
            · cases hr
theorem hear_one (c : CfgD) (m : MaS) (frm : Int) (x : MsgD) : (hearF c m frm x).2.1 = [] ∨ (hearF c m frm x).2.2 = [] := by
  unfold hearF
  split
  · exact .inl rfl
  · split
    · exact .inr rfl
    · unfold hearK
      split
      · cases doneK c m x <;> exact .inl rfl
      · split
        · split <;> exact .inl rfl
        · split
          · split
            · exact .inr rfl
            · exact .inl rfl
          · split
            · split <;> exact .inl rfl
            · exact .inl rfl
section
variable {W w w' : World} {gM gR : Nat} {F G S : Nat → Prop} {c : CfgD} {h : CfH} {m m2 m' : MaS}
set_option maxHeartbeats 6400000 in
theorem done22 (t : TwoM W w gM gR F G c h m m) (op fr : Int) (x : MsgD) (B1 B2 : Option Addr) (d1 d2 : Nat) (hx : MsgC W x B1 B2 d1 d2) (B : Int) (hB : MaB m B) (hB6 : B ≤ 1000) (hf : Fine m) :
    Calls Try.prog 27 #[.pointer (some ⟨gM, 0, none⟩), .pointer (some ⟨gR, 0, none⟩), .agg (rawL ⟨op, fr, x⟩ (.slice B1 x.set.length d1) (.slice B2 x.prs.length d2)).toArray] w fun e w' => ∃ v, e = .returned (.tuple #[.bool true, v]) ∧ ∃ F' G', TwoM W w' gM gR F' G' c h (stepM c m ⟨op, fr, x⟩).1 (stepM c m ⟨op, fr, x⟩).1 ∧ RecA W w' v (stepM c m ⟨op, fr, x⟩).2 F' G' := by
  obtain ⟨R, hR⟩ : ∃ R, R = stepM c m ⟨op, fr, x⟩ := ⟨_, rfl⟩
  obtain ⟨ls, hls⟩ : ∃ ls, ls = x.set.length := ⟨_, rfl⟩
  obtain ⟨lp, hlp⟩ : ∃ lp, lp = x.prs.length := ⟨_, rfl⟩
  obtain ⟨g, hg⟩ : ∃ g, g = w.heap.size := ⟨_, rfl⟩
  rw [← hR, ← hls, ← hlp]
  show Calls Try.prog 27 #[.pointer (some ⟨gM, 0, none⟩), .pointer (some ⟨gR, 0, none⟩), .agg #[.int .i64 op, .int .i64 fr, .int .i64 x.k, .int .i64 x.s, .int .i64 x.a, .int .i64 x.p, .int .i64 x.q, .int .i64 x.n, .int .i64 x.e, .int .i64 x.r, .slice B1 ls d1, .slice B2 lp d2]] w _
  obtain ⟨wA, hwA⟩ : ∃ wA, wA = w.alloc (.cells #[.int .i64 op, .int .i64 fr, .int .i64 x.k, .int .i64 x.s, .int .i64 x.a, .int .i64 x.p, .int .i64 x.q, .int .i64 x.n, .int .i64 x.e, .int .i64 x.r, .slice B1 ls d1, .slice B2 lp d2] 70) := ⟨_, rfl⟩
  have hbA : Below w.heap.size w wA := by rw [hwA]; exact (Below.refl _ _).alloc (Nat.le_refl _) _
  have hgA : wA.heap[g]? = some (.cells ([.int .i64 op, .int .i64 fr, .int .i64 x.k, .int .i64 x.s, .int .i64 x.a, .int .i64 x.p, .int .i64 x.q, .int .i64 x.n, .int .i64 x.e, .int .i64 x.r, .slice B1 ls d1, .slice B2 lp d2] : List Value).toArray 70 (0, 0)) := by rw [hwA, hg]; exact alloc_at w _
  have tA := t.below hbA
  have hgF : ¬ F g := fun hh => by have := t.ma.flt _ hh; omega
  have hgG : ¬ G g := fun hh => by have := t.rf.flt _ hh; omega
  have hum := Try.underlying45
  have hua := Try.underlying70
  have hsp6 : m.sp.length ≤ 6 := by
    obtain ⟨cv, ok, q⟩ := t.rf
    have h1 := q.len
    have h2 := q.n6
    omega
  have HTA := Aside0.mk tA
  have HX := Aside0.mk hx
  have HB := Aside0.mk hB
  have HFN := Aside0.mk hf
  have HGA := Aside0.mk hgA
  have HGF := Aside0.mk (And.intro hgF hgG)
  have HWA := Aside0.mk (And.intro hwA hg)
  have HLS := Aside0.mk (And.intro hls hlp)
  have HR := Aside0.mk hR
  have HSP6 := Aside0.mk hsp6
  have y0 : wA.cell? ⟨g, 0, none⟩ = some (.int .i64 op) := cell_of_blk hgA
  clear t tA hx hB hf hgA hgF hgG hwA hg hls hlp hR hbA hsp6
  go_enter Try.func27, Try.ntmps27
  go_upto_region 4 with (fail)
  rw [← HWA.out.1, ← HWA.out.2]
  by_cases ho0 : op = 0
  · have HE : Aside0 (R = ({ m with now := min (m.now + 1) 1099511627776 }, [])) := ⟨by rw [HR.out]; unfold stepM; rw [if_pos ho0]⟩
    subst ho0
    have HT1 := Aside0.mk (rTick HTA.out.ma HB.out.n0 HB.out.n1)
    go_wp2_with fail
    refine HT1.out.mono ?_
    rintro e w3 ⟨rfl, hM3, hc3⟩
    have t3 := HTA.out.left hM3 (fun k hk => .inl hk) hc3
    have HT3 := Aside0.mk t3
    have HT2 := Aside0.mk (rrTick t3.rf HB.out.n0 HB.out.n1)
    clear hM3 hc3 t3 y0
    go_wp2_with fail
    refine HT2.out.mono ?_
    rintro e w4 ⟨rfl, hM4, hc4⟩
    have t4 := HT3.out.right hM4 (fun k hk => .inl hk) hc4
    obtain ⟨F2, hF2⟩ : ∃ X, X = F := ⟨_, rfl⟩
    obtain ⟨G2, hG2⟩ : ∃ X, X = G := ⟨_, rfl⟩
    rw [← hF2, ← hG2] at t4
    have HT4 : Aside0 (TwoM W w4 gM gR F2 G2 c h R.1 R.1) := ⟨by rw [HE.out]; exact t4⟩
    have HRA4 : Aside0 (RecA W w4 (.slice none 0 0) R.2 F2 G2) := ⟨by rw [HE.out]; exact RecA.nil _ _⟩
    have HSL : Aside0 (Calls Try.prog 17 #[.slice none 0 0, .slice none 0 0] w4 fun e w' => e = .returned (.bool true) ∧ Below w4.heap.size w4 w') := ⟨sameLetters none 0 [] none 0 [] w4 (C_zero _ _) (C_zero _ _) (by decide) true (by simp)⟩
    have HSR0 : Aside0 (∀ w', Below w4.heap.size w4 w' → Calls Try.prog 40 #[.slice none 0 0, .slice none 0 0] w' fun e w'' => e = .returned (.bool true) ∧ Below w'.heap.size w' w'') := ⟨fun w' hb => sameRecords none 0 [] none 0 [] w' (C_zero _ _) (C_zero _ _) (by decide) true (by simp)⟩
    have HOV : Aside0 (∀ w', Below w4.heap.size w4 w' → Calls Try.prog 59 #[.slice none 0 0] w' fun e w'' => e = .returned (.tuple #[]) ∧ TwoM W w'' gM gR F2 G2 c h R.1 R.1 ∧ RecA W w'' (.slice none 0 0) R.2 F2 G2) := ⟨fun w' hb => by
      refine (overL_none none 0 w').mono ?_
      rintro e w'' ⟨rfl, rfl⟩
      exact ⟨rfl, HT4.out.below hb, HRA4.out.below hb⟩⟩
    clear hM4 hc4 t4 hF2 hG2
    go_wp2_with fail
    with_reducible refine HSL.out.mono ?_
    rintro e w5 ⟨rfl, hb5⟩
    have HSR := Aside0.mk (HSR0.out w5 hb5)
    have HB5 := Aside0.mk hb5
    clear hb5
    go_wp2_with fail
    with_reducible refine HSR.out.mono ?_
    rintro e w6 ⟨rfl, hb6⟩
    have HOV6 := Aside0.mk (HOV.out w6 (below_then HB5.out HB5.out.size hb6))
    clear hb6
    go_wp2_with fail
    with_reducible refine HOV6.out.mono ?_
    rintro e w7 ⟨rfl, h7⟩
    have H7 := Aside0.mk h7
    clear h7
    go_wp2_with fail
    go_ret2
    exact ⟨_, rfl, F2, G2, H7.out⟩
  by_cases ho1 : op = 1
  · have HE : Aside0 (R = ((wakeF c m).1, [])) := ⟨by rw [HR.out]; unfold stepM; rw [if_neg ho0, if_pos ho1]⟩
    subst ho1
    clear ho0
    have HT1 := Aside0.mk (rWake HTA.out.ma B HB.out (by omega))
    obtain ⟨L, hL⟩ : ∃ L, L = (wakeF c m).2 := ⟨_, rfl⟩
    rw [← hL] at HT1
    have HLEN : Aside0 (L.length ≤ 100) := ⟨by have := wake_len c m; have := HSP6.out; rw [hL]; omega⟩
    have HL := Aside0.mk hL
    clear hL
    go_wp2_with fail
    refine HT1.out.mono ?_
    rintro e w3 ⟨v3, rfl, hM3, hL3, hc3⟩
    have t3 := HTA.out.left hM3 (fun k hk => .inl hk) hc3
    have HT3 := Aside0.mk t3
    have HT2 := Aside0.mk (rrWake t3.rf B HB.out (by omega))
    rw [← HL.out] at HT2
    have HL3 := Aside0.mk hL3
    obtain ⟨Aa, na, rfl, _⟩ := hL3.reads
    clear hM3 hc3 t3 y0 hL3
    go_wp2_with fail
    refine HT2.out.mono ?_
    rintro e w4 ⟨v4, rfl, hM4, hL4, hc4⟩
    have t4 := HT3.out.right hM4 (fun k hk => .inl hk) hc4
    obtain ⟨Ab, nb, rfl, hCb⟩ := hL4.reads
    obtain ⟨F2, hF2⟩ : ∃ X, X = F := ⟨_, rfl⟩
    obtain ⟨G2, hG2⟩ : ∃ X, X = G := ⟨_, rfl⟩
    rw [← hF2, ← hG2] at t4
    have HT4 : Aside0 (TwoM W w4 gM gR F2 G2 c h R.1 R.1) := ⟨by rw [HE.out]; exact t4⟩
    have hla := HL3.out.ch hc4 (fun i hi hg => by have h1 := Own.base_ HL3.out i hi; have h2 := HTA.out.rf.flt i hg; omega)
    have HLA4 : Aside0 (LetA W w4 (.slice Aa L.length na) L F2 G2) := ⟨⟨Own.lower hla HTA.out.bel.size, fun i hi => by
      have h1 := Own.base_ HL3.out i hi
      refine ⟨fun hh => ?_, fun hh => ?_, Nat.le_trans HTA.out.bel.size h1⟩
      · rw [hF2] at hh; have := HTA.out.ma.flt i hh; omega
      · rw [hG2] at hh; have := HTA.out.rf.flt i hh; omega⟩⟩
    have hCa : Kd.C kLet w4 Aa L.length (L.map FLet.d) := by
      obtain ⟨A', n', e', hC⟩ := hla.reads
      injection e' with e1 e2 e3
      rw [e1]
      exact hC
    have HSL : Aside0 (Calls Try.prog 17 #[.slice Aa L.length na, .slice Ab L.length nb] w4 fun e w' => e = .returned (.bool true) ∧ Below w4.heap.size w4 w') := ⟨by
      have h := sameLetters Aa na (L.map FLet.d) Ab nb (L.map FLet.d) w4 (by rw [List.length_map]; exact hCa) (by rw [List.length_map]; exact hCb) (by rw [List.length_map]; have := HLEN.out; omega) true (by simp)
      rw [List.length_map] at h
      exact h⟩
    have HSR0 : Aside0 (∀ w', Below w4.heap.size w4 w' → Calls Try.prog 40 #[.slice none 0 0, .slice none 0 0] w' fun e w'' => e = .returned (.bool true) ∧ Below w'.heap.size w' w'') := ⟨fun w' hb => sameRecords none 0 [] none 0 [] w' (C_zero _ _) (C_zero _ _) (by decide) true (by simp)⟩
    have HR2 : Aside0 (R.2 = []) := ⟨by rw [HE.out]⟩
    have HOV : Aside0 (∀ w', Below w4.heap.size w4 w' → Calls Try.prog 59 #[.slice Aa L.length na] w' fun e w'' => e = .returned (.tuple #[]) ∧ TwoM W w'' gM gR F2 G2 c h R.1 R.1 ∧ RecA W w'' (.slice none 0 0) R.2 F2 G2) := ⟨fun w' hb => by
      refine ((HLA4.out.below hb).over ⟨HLEN.out, Nat.le_trans HT4.out.bel.size hb.size⟩).mono ?_
      rintro e w'' ⟨rfl, hc⟩
      exact ⟨rfl, (HT4.out.below hb).chx hc (fun i hi => HLA4.out.2 i hi), by rw [HR2.out]; exact RecA.nil _ _⟩⟩
    clear hM4 hc4 t4 hF2 hG2 hla hCa hCb hL4
    go_wp2_with fail
    with_reducible refine HSL.out.mono ?_
    rintro e w5 ⟨rfl, hb5⟩
    have HSR := Aside0.mk (HSR0.out w5 hb5)
    have HB5 := Aside0.mk hb5
    clear hb5
    go_wp2_with fail
    with_reducible refine HSR.out.mono ?_
    rintro e w6 ⟨rfl, hb6⟩
    have HOV6 := Aside0.mk (HOV.out w6 (below_then HB5.out HB5.out.size hb6))
    clear hb6
    go_wp2_with fail
    with_reducible refine HOV6.out.mono ?_
    rintro e w7 ⟨rfl, h7⟩
    have H7 := Aside0.mk h7
    clear h7
    go_wp2_with fail
    go_ret2
    exact ⟨_, rfl, F2, G2, H7.out⟩
  by_cases ho2 : op = 2
  · have HE : Aside0 (R = ((hearF c m fr x).1, (hearF c m fr x).2.2)) := ⟨by rw [HR.out]; unfold stepM; rw [if_neg ho0, if_neg ho1, if_pos ho2]⟩
    subst ho2
    clear ho0 ho1
    obtain ⟨L, hL⟩ : ∃ L, L = (hearF c m fr x).2.1 := ⟨_, rfl⟩
    obtain ⟨Q, hQ⟩ : ∃ Q, Q = (hearF c m fr x).2.2 := ⟨_, rfl⟩
    have hone : L = [] ∨ Q = [] := by rw [hL, hQ]; exact hear_one c m fr x
    have HT1 := rHear HTA.out.ma fr x B1 B2 d1 d2 (fun w' hc => HX.out.below (Below.ch HTA.out.bel hc HTA.out.bel.size HTA.out.loF)) HB.out.r0 (by have := HB.out.r1; omega)
    unfold msgV at HT1
    rw [← hL, ← hQ, ← HLS.out.1, ← HLS.out.2] at HT1
    have HT1 := Aside0.mk HT1
    have HLEN : Aside0 (L.length ≤ 100) := ⟨by have := hear_len c m fr x; have := HSP6.out; rw [hL]; omega⟩
    have HQEN : Aside0 (Q.length ≤ 100) := ⟨by have := hear_recs c m fr x; rw [hQ]; omega⟩
    have HONE := Aside0.mk hone
    have HK0 : Aside0 (∀ w', Ch wA w' F → w'.cell? ⟨g, 1, none⟩ = some (.int .i64 fr) ∧ w'.cell? ⟨g, 2, none⟩ = some (.int .i64 x.k) ∧ w'.cell? ⟨g, 3, none⟩ = some (.int .i64 x.s) ∧ w'.cell? ⟨g, 4, none⟩ = some (.int .i64 x.a) ∧ w'.cell? ⟨g, 5, none⟩ = some (.int .i64 x.p) ∧ w'.cell? ⟨g, 6, none⟩ = some (.int .i64 x.q) ∧ w'.cell? ⟨g, 7, none⟩ = some (.int .i64 x.n) ∧ w'.cell? ⟨g, 8, none⟩ = some (.int .i64 x.e) ∧ w'.cell? ⟨g, 9, none⟩ = some (.int .i64 x.r) ∧ w'.cell? ⟨g, 10, none⟩ = some (.slice B1 ls d1) ∧ w'.cell? ⟨g, 11, none⟩ = some (.slice B2 lp d2)) := ⟨fun w' hc => by
      have hq := hc.blk HGA.out HGF.out.1
      exact ⟨cell_of_blk hq, cell_of_blk hq, cell_of_blk hq, cell_of_blk hq, cell_of_blk hq, cell_of_blk hq, cell_of_blk hq, cell_of_blk hq, cell_of_blk hq, cell_of_blk hq, cell_of_blk hq⟩⟩
    obtain ⟨f1, f2, f3, f4, f5, f6, f7, f8, f9, f10, f11⟩ := HK0.out wA (Ch.refl _ _)
    have HLQ := Aside0.mk (And.intro hL hQ)
    clear hone hL hQ
    go_wp2_with fail
    refine HT1.out.mono ?_
    rintro e w3 ⟨v3, v4, rfl, hP3⟩
    obtain ⟨F2, BB, Aa, na, Ar, nr, rfl, rfl, _, _, hM3, hF3, hFB, hB3, hLP, ⟨zs, ow, hRP, hzx⟩, hc3⟩ := hP3.parts
    have t3 := HTA.out.left hM3 hF3 hc3
    have HT3 := Aside0.mk t3
    have HT2 := rrHear t3.rf fr x B1 B2 d1 d2 (fun w' hc => HX.out.below (Below.ch t3.bel hc t3.bel.size t3.loG)) HB.out.r0 (by have := HB.out.r1; omega) HFN.out
    unfold msgV at HT2
    rw [← HLQ.out.1, ← HLQ.out.2, ← HLS.out.1, ← HLS.out.2] at HT2
    have HT2 := Aside0.mk HT2
    have HP3 := Aside0.mk (And.intro hFB (And.intro hB3 (And.intro hLP (And.intro hRP hzx))))
    clear f1 f2 f3 f4 f5 f6 f7 f8 f9 f10 f11
    obtain ⟨f1, f2, f3, f4, f5, f6, f7, f8, f9, f10, f11⟩ := HK0.out w3 hc3
    clear hP3 hM3 hF3 hFB hB3 hLP hRP hzx hc3 t3 y0
    go_wp2_with fail
    refine HT2.out.mono ?_
    rintro e w4 ⟨v5, v6, rfl, hP4⟩
    obtain ⟨G2, Ab, nb, As, ns, rfl, rfl, hCb, hCs, hM4, hG4, hc4⟩ := hP4
    have t4 := HT3.out.right hM4 hG4 hc4
    have HT4 : Aside0 (TwoM W w4 gM gR F2 G2 c h R.1 R.1) := ⟨by rw [HE.out]; exact t4⟩
    obtain ⟨hFB, hB3, hLP, hRP, hzx⟩ := HP3.out
    have hGB : ∀ i, G i → i < BB := fun i hi => by have := HTA.out.rf.flt i hi; omega
    have hla := hLP.ch hc4 (fun i hi hg => by have h1 := Own.base_ hLP i hi; have h2 := hGB i hg; omega)
    have hra := hRP.chr hc4 (fun i hb hi hg => by have h2 := hGB i hg; omega)
    have hWB : W.heap.size ≤ BB := Nat.le_trans HTA.out.bel.size hB3
    have HLA4 : Aside0 (LetA W w4 (.slice Aa L.length na) L F2 G2) := ⟨⟨Own.lower hla hWB, fun i hi => by
      have h1 := Own.base_ hLP i hi
      have h3 := Own.lt hLP i hi
      refine ⟨fun hh => ?_, fun hh => ?_, Nat.le_trans hWB h1⟩
      · have := hFB i hh; omega
      · rcases hG4 i hh with h2 | h2
        · have := hGB i h2; omega
        · omega⟩⟩
    have HRA4 : Aside0 (RecA W w4 (.slice Ar Q.length nr) R.2 F2 G2) := ⟨by
      by_cases hBw : BB ≤ w4.heap.size
      · refine .inr ⟨zs, ow, BB, hra, by rw [hzx, HE.out, HLQ.out.2], hBw, fun i hb hi => ?_⟩
        have h3 : i < w3.heap.size := by
          rcases hi with hi | hi
          · exact Own.lt hRP.row i hi
          · exact hRP.lt i hi
        refine ⟨fun hh => ?_, fun hh => ?_, Nat.le_trans hWB hb⟩
        · have := hFB i hh; omega
        · rcases hG4 i hh with h2 | h2
          · have := hGB i h2; omega
          · omega
      · refine .inr ⟨zs, ow, w4.heap.size, ?_, by rw [hzx, HE.out, HLQ.out.2], Nat.le_refl _, fun i hb hi => ?_⟩
        · exact ⟨Own.lower hra.row (by omega), fun j hj => Kd.R_lower (hra.sets j hj) (by omega), fun j hj => Kd.R_lower (hra.prs j hj) (by omega), hra.out, hra.lt⟩
        · exfalso
          have h3 : i < w4.heap.size := by
            rcases hi with hi | hi
            · exact Own.lt hra.row i hi
            · exact hra.lt i hi
          omega⟩
    have hCa : Kd.C kLet w4 Aa L.length (L.map FLet.d) := by
      obtain ⟨A', n', e', hC⟩ := hla.reads
      injection e' with e1 e2 e3
      rw [e1]
      exact hC
    have hCr : Kd.C kRec w4 Ar Q.length Q := by
      obtain ⟨A', n', e', hC⟩ := hra.reads
      injection e' with e1 e2 e3
      have hzl : zs.length = Q.length := by rw [← hzx, List.length_map]
      rw [hzx, hzl] at hC
      rw [e1]
      exact hC
    have HSL : Aside0 (Calls Try.prog 17 #[.slice Aa L.length na, .slice Ab L.length nb] w4 fun e w' => e = .returned (.bool true) ∧ Below w4.heap.size w4 w') := ⟨by
      have h := sameLetters Aa na (L.map FLet.d) Ab nb (L.map FLet.d) w4 (by rw [List.length_map]; exact hCa) (by rw [List.length_map]; exact hCb) (by rw [List.length_map]; have := HLEN.out; omega) true (by simp)
      rw [List.length_map] at h
      exact h⟩
    have HSR0 : Aside0 (∀ w', Below w4.heap.size w4 w' → Calls Try.prog 40 #[.slice Ar Q.length nr, .slice As Q.length ns] w' fun e w'' => e = .returned (.bool true) ∧ Below w'.heap.size w' w'') := ⟨fun w' hb => sameRecords Ar nr Q As ns Q w' (Kd.C_below hCr hb) (Kd.C_below hCs hb) (by have := HQEN.out; omega) true (by simp)⟩
    have HOV : Aside0 (∀ w', Below w4.heap.size w4 w' → Calls Try.prog 59 #[.slice Aa L.length na] w' fun e w'' => e = .returned (.tuple #[]) ∧ TwoM W w'' gM gR F2 G2 c h R.1 R.1 ∧ RecA W w'' (.slice Ar Q.length nr) R.2 F2 G2) := ⟨fun w' hb => by
      rcases HONE.out with h0 | h0
      · have hl : L.length = 0 := by rw [h0]; rfl
        rw [hl]
        refine (overL_none Aa na w').mono ?_
        rintro e w'' ⟨rfl, rfl⟩
        exact ⟨rfl, HT4.out.below hb, HRA4.out.below hb⟩
      · refine ((HLA4.out.below hb).over ⟨HLEN.out, Nat.le_trans HT4.out.bel.size hb.size⟩).mono ?_
        rintro e w'' ⟨rfl, hc⟩
        refine ⟨rfl, (HT4.out.below hb).chx hc (fun i hi => HLA4.out.2 i hi), .inl ⟨by rw [HE.out, ← HLQ.out.2, h0], Ar, nr, by rw [h0]; rfl⟩⟩⟩
    clear hCb hCs hM4 hG4 hc4 t4 hFB hB3 hLP hRP hzx hGB hla hra hWB hCa hCr HP3 f1 f2 f3 f4 f5 f6 f7 f8 f9 f10 f11
    go_wp2_with fail
    with_reducible refine HSL.out.mono ?_
    rintro e w5 ⟨rfl, hb5⟩
    have HSR := Aside0.mk (HSR0.out w5 hb5)
    have HB5 := Aside0.mk hb5
    clear hb5
    go_wp2_with fail
    with_reducible refine HSR.out.mono ?_
    rintro e w6 ⟨rfl, hb6⟩
    have HOV6 := Aside0.mk (HOV.out w6 (below_then HB5.out HB5.out.size hb6))
    clear hb6
    go_wp2_with fail
    with_reducible refine HOV6.out.mono ?_
    rintro e w7 ⟨rfl, h7⟩
    have H7 := Aside0.mk h7
    clear h7
    go_wp2_with fail
    go_ret2
    exact ⟨_, rfl, F2, G2, H7.out⟩
  have HE : Aside0 (R = (m, [])) := ⟨by rw [HR.out]; unfold stepM; rw [if_neg ho0, if_neg ho1, if_neg ho2]⟩
  have hb0 : (op == 0) = false := beq_eq_false_iff_ne.2 ho0
  have hb1 : (op == 1) = false := beq_eq_false_iff_ne.2 ho1
  have hb2 : (op == 2) = false := beq_eq_false_iff_ne.2 ho2
  clear ho0 ho1 ho2
  obtain ⟨F2, hF2⟩ : ∃ X, X = F := ⟨_, rfl⟩
  obtain ⟨G2, hG2⟩ : ∃ X, X = G := ⟨_, rfl⟩
  obtain ⟨w4, hw4⟩ : ∃ X, X = wA := ⟨_, rfl⟩
  have HT4 : Aside0 (TwoM W w4 gM gR F2 G2 c h R.1 R.1) := ⟨by rw [HE.out, hF2, hG2, hw4]; exact HTA.out⟩
  have HRA4 : Aside0 (RecA W w4 (.slice none 0 0) R.2 F2 G2) := ⟨by rw [HE.out]; exact RecA.nil _ _⟩
  have HSL : Aside0 (Calls Try.prog 17 #[.slice none 0 0, .slice none 0 0] w4 fun e w' => e = .returned (.bool true) ∧ Below w4.heap.size w4 w') := ⟨sameLetters none 0 [] none 0 [] w4 (C_zero _ _) (C_zero _ _) (by decide) true (by simp)⟩
  have HSR0 : Aside0 (∀ w', Below w4.heap.size w4 w' → Calls Try.prog 40 #[.slice none 0 0, .slice none 0 0] w' fun e w'' => e = .returned (.bool true) ∧ Below w'.heap.size w' w'') := ⟨fun w' hb => sameRecords none 0 [] none 0 [] w' (C_zero _ _) (C_zero _ _) (by decide) true (by simp)⟩
  have HOV : Aside0 (∀ w', Below w4.heap.size w4 w' → Calls Try.prog 59 #[.slice none 0 0] w' fun e w'' => e = .returned (.tuple #[]) ∧ TwoM W w'' gM gR F2 G2 c h R.1 R.1 ∧ RecA W w'' (.slice none 0 0) R.2 F2 G2) := ⟨fun w' hb => by
    refine (overL_none none 0 w').mono ?_
    rintro e w'' ⟨rfl, rfl⟩
    exact ⟨rfl, HT4.out.below hb, HRA4.out.below hb⟩⟩
  rw [← hw4] at y0
  rw [← hw4]
  clear hF2 hG2 hw4
  go_wp2_with fail
  with_reducible refine HSL.out.mono ?_
  rintro e w5 ⟨rfl, hb5⟩
  have HSR := Aside0.mk (HSR0.out w5 hb5)
  have HB5 := Aside0.mk hb5
  clear hb5
  go_wp2_with fail
  with_reducible refine HSR.out.mono ?_
  rintro e w6 ⟨rfl, hb6⟩
  have HOV6 := Aside0.mk (HOV.out w6 (below_then HB5.out HB5.out.size hb6))
  clear hb6
  go_wp2_with fail
  with_reducible refine HOV6.out.mono ?_
  rintro e w7 ⟨rfl, h7⟩
  have H7 := Aside0.mk h7
  clear h7
  go_wp2_with fail
  go_ret2
  exact ⟨_, rfl, F2, G2, H7.out⟩
end
end Go.Proofs.Ytbnhhlahbhjogaa.K
namespace Go.Proofs.Ytbnhhlahbhjogaa.K
open Go.RowKit Go.Proofs.YtbnhhlahbhjogaaW.PrintWords Go.Proofs.YtbnhhlahbhjogaaW.PrintLast Go.Proofs.YtbnhhlahbhjogaaW.PrintMore Go.Proofs.Ytbnhhlahbhjogaa.U Go.Proofs.Ytbnhhlahbhjogaa.T

theorem spot_none {w : World} {g o : Nat} {z : Option _} {v : Value} (h : w.cell? ⟨g, o, z⟩ = some v) : z = none := by
  cases z with
  | none => rfl
  | some s =>
    unfold World.cell? at h
    split at h
    · simp at h
    · cases h
theorem num_ (e : Int) (h0 : 0 ≤ e) (h1 : e ≤ 100) (w : World) : Calls Try.prog 26 #[.int .i64 e] w fun r w' => r = .returned (.int .i64 e) ∧ w' = w := by
  have hw : IntKind.i64.wrap e = e := IntWalk.i64_in _ (by omega)
  go_enter Try.func26, Try.ntmps26
  go_wp2_with fail
  go_ret
  exact ⟨rfl, rfl⟩
def stN (c : CfgD) (m : MaS) (acts : List MActD) : Nat → MaS
  | 0 => m
  | k + 1 => (stepM c (stN c m acts k) (acts.getD k ⟨3, 0, ⟨0, 0, 0, 0, 0, 0, 0, 0, [], []⟩⟩)).1
theorem stN_succ (c : CfgD) (m : MaS) (acts : List MActD) (k : Nat) (h : k < acts.length) : stN c m acts (k + 1) = (stepM c (stN c m acts k) acts[k]).1 := by
  show (stepM c _ _).1 = _
  rw [show acts.getD k ⟨3, 0, ⟨0, 0, 0, 0, 0, 0, 0, 0, [], []⟩⟩ = acts[k] from by rw [List.getD_eq_getElem?_getD, List.getElem?_eq_getElem h]; rfl]
theorem MaB.recB {c : CfgD} {m : MaS} {B : Int} (h : MaB m B) (r : RecD) : MaB (recF c m r) B := by
  unfold recF
  split
  · split
    · cases ho : openN m r.s with
      | none => exact h
      | some j => exact h.win j (openN_some ho).1 _ _
    · exact h
  · split
    · split
      · exact ⟨h.n0, h.n1, h.r0, h.r1, h.a0, h.a1, h.t0, h.t1, h.l0, h.l1⟩
      · exact h
    · split
      · split
        · exact ⟨h.n0, h.n1, h.r0, h.r1, h.a0, h.a1, h.t0, h.t1, h.l0, h.l1⟩
        · exact h
      · exact h
theorem Fine.recN {c : CfgD} {m : MaS} (h : Fine m) (r : RecD) : Fine (recF c m r) := by
  unfold recF
  split
  · split
    · cases ho : openN m r.s with
      | none => exact h
      | some j => exact h
    · exact h
  · split
    · split
      · exact fun e => absurd e (by show ¬ (1 : Int) = 0; decide)
      · exact h
    · split
      · split
        · exact fun e => absurd e (by show ¬ (2 : Int) = 0; decide)
        · exact h
      · exact h
theorem new_ok (c : CfgD) (rs : List RecD) (m : MaS) (h1 : MaB m 0) (h2 : Fine m) : MaB (rs.foldl (recF c) m) 0 ∧ Fine (rs.foldl (recF c) m) := by
  induction rs generalizing m with
  | nil => exact ⟨h1, h2⟩
  | cons r rs ih => exact ih _ (h1.recB r) (h2.recN r)
theorem stN_ok (c : CfgD) (m : MaS) (acts : List MActD) (h1 : MaB m 0) (h2 : Fine m) (t1 : 1 ≤ c.tries) (t3 : c.tries ≤ 3) (k : Nat) : MaB (stN c m acts k) (k : Int) ∧ Fine (stN c m acts k) := by
  induction k with
  | zero => exact ⟨h1, h2⟩
  | succ k ih =>
    have := ih.1.step c (acts.getD k ⟨3, 0, ⟨0, 0, 0, 0, 0, 0, 0, 0, [], []⟩⟩) t1 t3
    rw [show ((k + 1 : Nat) : Int) = (k : Int) + 1 from by omega]
    exact ⟨this, ih.2.step _⟩
theorem winV_won {w : World} {gR : Nat} {G ok : Nat → Prop} {c : CfgD} {h : CfH} {m : MaS} {cv : Nat → Value} (p : RfP w gR G c h m cv ok) (k : Nat) (hk : k < m.sp.length) : winV m k = (wonI (S_ m k), decide (0 < wonI (S_ m k))) := by
  rw [winV_nat m k hk]
  have hp := wonI_pos p k
  by_cases hw : (S_ m k).won = true
  · rw [if_pos (show (m.sp.getD k zeroS).won = true from hw), decide_eq_true (hp.2 hw)]
    unfold wonI
    rw [if_pos hw]
    rfl
  · rw [if_neg (show ¬ (m.sp.getD k zeroS).won = true from hw), decide_eq_false (fun hh => hw (hp.1 hh))]
    unfold wonI
    rw [if_neg hw]
theorem winV_out (m : MaS) (n : Int) (h : n < 0 ∨ (m.sp.length : Int) ≤ n) : winV m n = (0, false) := by
  unfold winV
  rw [if_neg (by omega)]
set_option maxHeartbeats 12800000 in
theorem masterScript_in (j : JobD) (wk tr tmo : Int) (A1 A2 A3 A4 A5 : Option Addr) (c1 c2 c3 c4 c5 : Nat) (W : World) (hj : JobC W j A1 A2 A3 A4 A5 c1 c2 c3 c4 c5) (hgs : ∀ l ∈ j.splits, ∀ x ∈ l, GPair x) (AR : Option Addr) (cR : Nat) (rs : List RecD) (hrs : Kd.C kRec W AR rs.length rs) (hgr : ∀ r ∈ rs, GRec r) (AX : Option Addr) (cX : Nat) (xs : List MActD) (hxs : Kd.C kMAct W AX xs.length xs) (hgx : ∀ x ∈ xs, GMAct x) :
    Calls Try.prog 6 #[.agg #[.slice A1 j.splits.length c1, .int .i64 j.parts, .slice A2 j.map.length c2, .slice A3 j.combine.length c3, .slice A4 j.reduce.length c4, .int .i64 j.chunk, .int .i64 j.window, .int .i64 j.fuel, .slice A5 j.marks.length c5, .int .i64 wk, .int .i64 tr, .int .i64 tmo], .slice AR rs.length cR, .slice AX xs.length cX] W fun e w' => e = .returned (.bool true) ∧ Below W.heap.size W w' := by
  obtain ⟨N, hN⟩ : ∃ N, N = j.splits.length := ⟨_, rfl⟩
  obtain ⟨nr, hnr⟩ : ∃ n, n = rs.length := ⟨_, rfl⟩
  obtain ⟨nx, hnx⟩ : ∃ n, n = xs.length := ⟨_, rfl⟩
  obtain ⟨g, hg⟩ : ∃ g, g = W.heap.size := ⟨_, rfl⟩
  have hmx : nx ≤ 9223372036854775807 := by rw [hnx]; exact Kd.C_max hxs
  obtain ⟨w0, hw0⟩ : ∃ w0, w0 = W.alloc (.cells #[.slice A1 N c1, .int .i64 j.parts, .slice A2 j.map.length c2, .slice A3 j.combine.length c3, .slice A4 j.reduce.length c4, .int .i64 j.chunk, .int .i64 j.window, .int .i64 j.fuel, .slice A5 j.marks.length c5, .int .i64 wk, .int .i64 tr, .int .i64 tmo] 28) := ⟨_, rfl⟩
  have hb0 : Below W.heap.size W w0 := by rw [hw0]; exact (Below.refl _ _).alloc (Nat.le_refl _) _
  have hg0 : w0.heap[g]? = some (.cells ([.slice A1 N c1, .int .i64 j.parts, .slice A2 j.map.length c2, .slice A3 j.combine.length c3, .slice A4 j.reduce.length c4, .int .i64 j.chunk, .int .i64 j.window, .int .i64 j.fuel, .slice A5 j.marks.length c5, .int .i64 wk, .int .i64 tr, .int .i64 tmo] : List Value).toArray 28 (0, 0)) := by rw [hw0, hg]; exact alloc_at W _
  have hgj := great22 j wk tr tmo A1 A2 A3 A4 A5 c1 c2 c3 c4 c5 AR cR rs AX cX xs 80 w0 (JobC.below hj hb0) hgs (Kd.C_below hrs hb0) hgr (Kd.C_below hxs hb0) hgx
  rw [← hN, ← hnr, ← hnx] at hgj
  have HGJ := Aside0.mk hgj
  have HJ := Aside0.mk hj
  have HN := Aside0.mk hN
  have HNR := Aside0.mk hnr
  have HNX := Aside0.mk hnx
  have HRS := Aside0.mk hrs
  have HXS := Aside0.mk hxs
  have HG := Aside0.mk hg
  have HW0 := Aside0.mk hw0
  have HB0 := Aside0.mk hb0
  have HG0 := Aside0.mk hg0
  have huc := Try.underlying28
  have huj := Try.underlying26
  have hua := Try.underlying70
  have x0 : w0.cell? ⟨g, 0, none⟩ = some (.slice A1 N c1) := cell_of_blk hg0
  have x1 : w0.cell? ⟨g, 1, none⟩ = some (.int .i64 j.parts) := cell_of_blk hg0
  have x2 : w0.cell? ⟨g, 2, none⟩ = some (.slice A2 j.map.length c2) := cell_of_blk hg0
  have x3 : w0.cell? ⟨g, 3, none⟩ = some (.slice A3 j.combine.length c3) := cell_of_blk hg0
  have x4 : w0.cell? ⟨g, 4, none⟩ = some (.slice A4 j.reduce.length c4) := cell_of_blk hg0
  have x5 : w0.cell? ⟨g, 5, none⟩ = some (.int .i64 j.chunk) := cell_of_blk hg0
  have x6 : w0.cell? ⟨g, 6, none⟩ = some (.int .i64 j.window) := cell_of_blk hg0
  have x7 : w0.cell? ⟨g, 7, none⟩ = some (.int .i64 j.fuel) := cell_of_blk hg0
  have x8 : w0.cell? ⟨g, 8, none⟩ = some (.slice A5 j.marks.length c5) := cell_of_blk hg0
  have x9 : w0.cell? ⟨g, 9, none⟩ = some (.int .i64 wk) := cell_of_blk hg0
  have x10 : w0.cell? ⟨g, 10, none⟩ = some (.int .i64 tr) := cell_of_blk hg0
  have x11 : w0.cell? ⟨g, 11, none⟩ = some (.int .i64 tmo) := cell_of_blk hg0
  rw [← hN, ← hnr, ← hnx]
  clear hj hgs hN hnr hnx hrs hgr hxs hgx hg hw0 hb0 hg0 hgj
  go_enter Try.func6, Try.ntmps6
  go_upto_region 1 with (fail)
  rw [show W.alloc (.cells #[.slice A1 N c1, .int .i64 j.parts, .slice A2 j.map.length c2, .slice A3 j.combine.length c3, .slice A4 j.reduce.length c4, .int .i64 j.chunk, .int .i64 j.window, .int .i64 j.fuel, .slice A5 j.marks.length c5, .int .i64 wk, .int .i64 tr, .int .i64 tmo] 28) = w0 from HW0.out.symm, ← HG.out]
  go_wp2_with fail
  refine HGJ.out.mono ?_
  rintro e wN ⟨⟨r, rfl, hgr⟩, hb1⟩
  have HGRT := Aside0.mk hgr
  have HBN := Aside0.mk (below_then HB0.out HB0.out.size hb1)
  have HGN : Aside0 (wN.heap[g]? = some (.cells ([.slice A1 N c1, .int .i64 j.parts, .slice A2 j.map.length c2, .slice A3 j.combine.length c3, .slice A4 j.reduce.length c4, .int .i64 j.chunk, .int .i64 j.window, .int .i64 j.fuel, .slice A5 j.marks.length c5, .int .i64 wk, .int .i64 tr, .int .i64 tmo] : List Value).toArray 28 (0, 0))) := ⟨(hb1.block g (blk_lt' HG0.out)).trans HG0.out⟩
  clear hgr hb1 HGJ
  clear x0 x1 x2 x3 x4 x5 x6 x7 x8 x9 x10 x11
  cases r
  case' true =>
    go_wp2_with fail
    refine (awake22 wN).mono ?_
    rintro e wz ⟨rfl, hbz⟩
    have HBZ := Aside0.mk (below_then HBN.out HBN.out.size hbz)
    clear hbz
    go_wp2_with fail
    go_ret
    exact ⟨rfl, HBZ.out⟩
  obtain ⟨hr20, hrsm, hx80, hxsm⟩ := HGRT.out rfl
  have HR20 : Aside0 (nr ≤ 20) := ⟨by omega⟩
  have HX80 : Aside0 (nx ≤ 80) := ⟨by omega⟩
  have HXSM := Aside0.mk hxsm
  clear hr20 hrsm hx80 hxsm
  obtain ⟨c, hc⟩ : ∃ c : CfgD, c = ⟨j, wk, tr, tmo⟩ := ⟨_, rfl⟩
  obtain ⟨h, hh⟩ : ∃ h : CfH, h = ⟨A1, A2, A3, A4, A5, c1, c2, c3, c4, c5⟩ := ⟨_, rfl⟩
  have HC := Aside0.mk (And.intro hc hh)
  have HJN : Aside0 (JobH wN c.job h) := ⟨by rw [hc, hh]; exact JobC.below HJ.out HBN.out⟩
  clear hc hh
  have x0 : wN.cell? ⟨g, 0, none⟩ = some (.slice A1 N c1) := cell_of_blk HGN.out
  have x1 : wN.cell? ⟨g, 1, none⟩ = some (.int .i64 j.parts) := cell_of_blk HGN.out
  have x2 : wN.cell? ⟨g, 2, none⟩ = some (.slice A2 j.map.length c2) := cell_of_blk HGN.out
  have x3 : wN.cell? ⟨g, 3, none⟩ = some (.slice A3 j.combine.length c3) := cell_of_blk HGN.out
  have x4 : wN.cell? ⟨g, 4, none⟩ = some (.slice A4 j.reduce.length c4) := cell_of_blk HGN.out
  have x5 : wN.cell? ⟨g, 5, none⟩ = some (.int .i64 j.chunk) := cell_of_blk HGN.out
  have x6 : wN.cell? ⟨g, 6, none⟩ = some (.int .i64 j.window) := cell_of_blk HGN.out
  have x7 : wN.cell? ⟨g, 7, none⟩ = some (.int .i64 j.fuel) := cell_of_blk HGN.out
  have x8 : wN.cell? ⟨g, 8, none⟩ = some (.slice A5 j.marks.length c5) := cell_of_blk HGN.out
  have x9 : wN.cell? ⟨g, 9, none⟩ = some (.int .i64 wk) := cell_of_blk HGN.out
  have x10 : wN.cell? ⟨g, 10, none⟩ = some (.int .i64 tr) := cell_of_blk HGN.out
  have x11 : wN.cell? ⟨g, 11, none⟩ = some (.int .i64 tmo) := cell_of_blk HGN.out
  by_cases hm : CfgMay c
  case' neg =>
    have HNEW : Aside0 (∀ w', Below wN.heap.size wN w' → Calls Try.prog 12 #[.agg #[.slice A1 N c1, .int .i64 j.parts, .slice A2 j.map.length c2, .slice A3 j.combine.length c3, .slice A4 j.reduce.length c4, .int .i64 j.chunk, .int .i64 j.window, .int .i64 j.fuel, .slice A5 j.marks.length c5, .int .i64 wk, .int .i64 tr, .int .i64 tmo], .slice AR nr cR] w' fun e w'' => e = .returned (.tuple #[.pointer none, .int .i64 2]) ∧ Below w'.heap.size w' w'') := ⟨fun w' hb => by
      have h1 := mNew_no c h rs AR cR w' (JobC.below HJN.out hb) hm
      rw [HC.out.1, HC.out.2] at h1
      dsimp only at h1
      rw [← HN.out, ← HNR.out] at h1
      exact h1⟩
    have HREF : Aside0 (∀ w', Below wN.heap.size wN w' → Calls Try.prog 25 #[.agg #[.slice A1 N c1, .int .i64 j.parts, .slice A2 j.map.length c2, .slice A3 j.combine.length c3, .slice A4 j.reduce.length c4, .int .i64 j.chunk, .int .i64 j.window, .int .i64 j.fuel, .slice A5 j.marks.length c5, .int .i64 wk, .int .i64 tr, .int .i64 tmo], .slice AR nr cR] w' fun e w'' => e = .returned (.tuple #[.pointer none, .int .i64 2]) ∧ Below w'.heap.size w' w'') := ⟨fun w' hb => by
      have h1 := rfNew_no c h rs AR cR w' (JobC.below HJN.out hb) hm
      rw [HC.out.1, HC.out.2] at h1
      dsimp only at h1
      rw [← HN.out, ← HNR.out] at h1
      exact h1⟩
    clear hm
    go_wp2_with fail
    refine (HNEW.out wN (Below.refl _ _)).mono ?_
    rintro e w3 ⟨rfl, hb3⟩
    have HB3 := Aside0.mk hb3
    have HG3 : Aside0 (w3.heap[g]? = some (.cells ([.slice A1 N c1, .int .i64 j.parts, .slice A2 j.map.length c2, .slice A3 j.combine.length c3, .slice A4 j.reduce.length c4, .int .i64 j.chunk, .int .i64 j.window, .int .i64 j.fuel, .slice A5 j.marks.length c5, .int .i64 wk, .int .i64 tr, .int .i64 tmo] : List Value).toArray 28 (0, 0))) := ⟨(hb3.block g (blk_lt' HGN.out)).trans HGN.out⟩
    clear hb3
    clear x0 x1 x2 x3 x4 x5 x6 x7 x8 x9 x10 x11
    have x0 : w3.cell? ⟨g, 0, none⟩ = some (.slice A1 N c1) := cell_of_blk HG3.out
    have x1 : w3.cell? ⟨g, 1, none⟩ = some (.int .i64 j.parts) := cell_of_blk HG3.out
    have x2 : w3.cell? ⟨g, 2, none⟩ = some (.slice A2 j.map.length c2) := cell_of_blk HG3.out
    have x3 : w3.cell? ⟨g, 3, none⟩ = some (.slice A3 j.combine.length c3) := cell_of_blk HG3.out
    have x4 : w3.cell? ⟨g, 4, none⟩ = some (.slice A4 j.reduce.length c4) := cell_of_blk HG3.out
    have x5 : w3.cell? ⟨g, 5, none⟩ = some (.int .i64 j.chunk) := cell_of_blk HG3.out
    have x6 : w3.cell? ⟨g, 6, none⟩ = some (.int .i64 j.window) := cell_of_blk HG3.out
    have x7 : w3.cell? ⟨g, 7, none⟩ = some (.int .i64 j.fuel) := cell_of_blk HG3.out
    have x8 : w3.cell? ⟨g, 8, none⟩ = some (.slice A5 j.marks.length c5) := cell_of_blk HG3.out
    have x9 : w3.cell? ⟨g, 9, none⟩ = some (.int .i64 wk) := cell_of_blk HG3.out
    have x10 : w3.cell? ⟨g, 10, none⟩ = some (.int .i64 tr) := cell_of_blk HG3.out
    have x11 : w3.cell? ⟨g, 11, none⟩ = some (.int .i64 tmo) := cell_of_blk HG3.out
    go_wp2_with fail
    refine (HREF.out w3 HB3.out).mono ?_
    rintro e w4 ⟨rfl, hb4⟩
    have HB4 := Aside0.mk (below_then HBN.out HBN.out.size (below_then HB3.out HB3.out.size hb4))
    have HNM := Aside0.mk (num_ 2 (by decide) (by decide) w4)
    clear hb4
    clear x0 x1 x2 x3 x4 x5 x6 x7 x8 x9 x10 x11
    go_wp2_with fail
    refine HNM.out.mono ?_
    rintro e w4 ⟨rfl, rfl⟩
    go_wp2_with fail
    refine (awake22 w4).mono ?_
    rintro e wz ⟨rfl, hbz⟩
    have HBZ := Aside0.mk (below_then HB4.out HB4.out.size hbz)
    clear hbz
    go_wp2_with fail
    go_ret
    exact ⟨rfl, HBZ.out⟩
  have HNEW : Aside0 (Calls Try.prog 12 #[.agg #[.slice A1 N c1, .int .i64 j.parts, .slice A2 j.map.length c2, .slice A3 j.combine.length c3, .slice A4 j.reduce.length c4, .int .i64 j.chunk, .int .i64 j.window, .int .i64 j.fuel, .slice A5 j.marks.length c5, .int .i64 wk, .int .i64 tr, .int .i64 tmo], .slice AR nr cR] wN fun e w'' => ∃ gM F, e = .returned (.tuple #[.pointer (some ⟨gM, 0, none⟩), .int .i64 0]) ∧ MaR w'' gM F c (newF c rs) ∧ (∀ i, F i → wN.heap.size ≤ i) ∧ Below wN.heap.size wN w'') := ⟨by
    have h1 := mNew c h rs AR cR wN HJN.out hm (Kd.C_below HRS.out HBN.out)
    obtain ⟨e1, e2⟩ := HC.out
    subst e1
    subst e2
    dsimp only at h1
    rw [← HN.out, ← HNR.out] at h1
    exact h1⟩
  have HREF : Aside0 (∀ w', Below wN.heap.size wN w' → Calls Try.prog 25 #[.agg #[.slice A1 N c1, .int .i64 j.parts, .slice A2 j.map.length c2, .slice A3 j.combine.length c3, .slice A4 j.reduce.length c4, .int .i64 j.chunk, .int .i64 j.window, .int .i64 j.fuel, .slice A5 j.marks.length c5, .int .i64 wk, .int .i64 tr, .int .i64 tmo], .slice AR nr cR] w' fun e w'' => ∃ gR F, e = .returned (.tuple #[.pointer (some ⟨gR, 0, none⟩), .int .i64 0]) ∧ RfR w'' gR F c h (newF c rs) ∧ (∀ i, F i → w'.heap.size ≤ i) ∧ Below w'.heap.size w' w'') := ⟨fun w' hb => by
    have h1 := rfNew c h rs AR cR w' (JobC.below HJN.out hb) hm (Kd.C_below (Kd.C_below HRS.out HBN.out) hb)
    obtain ⟨e1, e2⟩ := HC.out
    subst e1
    subst e2
    dsimp only at h1
    rw [← HN.out, ← HNR.out] at h1
    exact h1⟩
  have HMAY := Aside0.mk hm
  clear hm
  go_wp2_with fail
  refine HNEW.out.mono ?_
  rintro e w3 ⟨gM, F, rfl, hM3, hF3, hb3⟩
  have HM3 := Aside0.mk hM3
  have HF3 := Aside0.mk hF3
  have HB3 := Aside0.mk hb3
  have HG3 : Aside0 (w3.heap[g]? = some (.cells ([.slice A1 N c1, .int .i64 j.parts, .slice A2 j.map.length c2, .slice A3 j.combine.length c3, .slice A4 j.reduce.length c4, .int .i64 j.chunk, .int .i64 j.window, .int .i64 j.fuel, .slice A5 j.marks.length c5, .int .i64 wk, .int .i64 tr, .int .i64 tmo] : List Value).toArray 28 (0, 0))) := ⟨(hb3.block g (blk_lt' HGN.out)).trans HGN.out⟩
  clear hM3 hF3 hb3
  clear x0 x1 x2 x3 x4 x5 x6 x7 x8 x9 x10 x11
  have x0 : w3.cell? ⟨g, 0, none⟩ = some (.slice A1 N c1) := cell_of_blk HG3.out
  have x1 : w3.cell? ⟨g, 1, none⟩ = some (.int .i64 j.parts) := cell_of_blk HG3.out
  have x2 : w3.cell? ⟨g, 2, none⟩ = some (.slice A2 j.map.length c2) := cell_of_blk HG3.out
  have x3 : w3.cell? ⟨g, 3, none⟩ = some (.slice A3 j.combine.length c3) := cell_of_blk HG3.out
  have x4 : w3.cell? ⟨g, 4, none⟩ = some (.slice A4 j.reduce.length c4) := cell_of_blk HG3.out
  have x5 : w3.cell? ⟨g, 5, none⟩ = some (.int .i64 j.chunk) := cell_of_blk HG3.out
  have x6 : w3.cell? ⟨g, 6, none⟩ = some (.int .i64 j.window) := cell_of_blk HG3.out
  have x7 : w3.cell? ⟨g, 7, none⟩ = some (.int .i64 j.fuel) := cell_of_blk HG3.out
  have x8 : w3.cell? ⟨g, 8, none⟩ = some (.slice A5 j.marks.length c5) := cell_of_blk HG3.out
  have x9 : w3.cell? ⟨g, 9, none⟩ = some (.int .i64 wk) := cell_of_blk HG3.out
  have x10 : w3.cell? ⟨g, 10, none⟩ = some (.int .i64 tr) := cell_of_blk HG3.out
  have x11 : w3.cell? ⟨g, 11, none⟩ = some (.int .i64 tmo) := cell_of_blk HG3.out
  go_wp2_with fail
  refine (HREF.out w3 HB3.out).mono ?_
  rintro e w4 ⟨gR, G, rfl, hM4, hG4, hb4⟩
  have HT0 : Aside0 (∃ F G, TwoM wN w4 gM gR F G c h (stN c (newF c rs) xs 0) (stN c (newF c rs) xs 0)) := ⟨⟨F, G, HM3.out.below hb4, hM4, fun k hk hg => by have h1 := HM3.out.flt k hk; have h2 := hG4 k hg; omega, HF3.out, fun k hk => Nat.le_trans HB3.out.size (hG4 k hk), below_then HB3.out HB3.out.size hb4, HJN.out⟩⟩
  have HNM := Aside0.mk (num_ 0 (by decide) (by decide) w4)
  have HTR : Aside0 (1 ≤ c.tries ∧ c.tries ≤ 3) := ⟨HMAY.out.tries⟩
  have HN6 : Aside0 (N ≤ 6) := ⟨by have h1 := HMAY.out.job.splits.2; rw [HC.out.1] at h1; have h2 := HN.out; dsimp only at h1; omega⟩
  have HOK : Aside0 (∀ k : Nat, MaB (stN c (newF c rs) xs k) (k : Int) ∧ Fine (stN c (newF c rs) xs k)) := ⟨fun k => by
    have h1 := new_ok c rs (m0 c) (MaB.m0 c) (fun _ => rfl)
    exact stN_ok c _ xs h1.1 h1.2 HTR.out.1 HTR.out.2 k⟩
  have HGL : Aside0 (g < wN.heap.size) := ⟨blk_lt' HGN.out⟩
  clear hM4 hG4 hb4
  clear x0 x1 x2 x3 x4 x5 x6 x7 x8 x9 x10 x11
  go_wp2_with fail
  refine HNM.out.mono ?_
  rintro e w4 ⟨rfl, rfl⟩
  go_wp2_with fail
  go_loopg [11, 12, 13, 14, 15, 16, 17, 18, 19, 20] nx (fun kq v11 v12 v13 v14 v15 v16 v17 v18 v19 v20 w' => ∃ (i : Nat), i + kq = nx ∧ v11 = .int .i64 i ∧ Aside0 (∃ F G, TwoM wN w' gM gR F G c h (stN c (newF c rs) xs i) (stN c (newF c rs) xs i)))
  case atStart => exact ⟨0, by omega, rfl, HT0⟩
  case round =>
    obtain ⟨i, hi, rfl, HT⟩ := hrel
    by_cases hlt : i < nx
    case' neg =>
      obtain rfl : nx = i := by omega
      have hltI : ¬ (nx : Int) < nx := by omega
      obtain ⟨F', G', ht⟩ := HT.out
      have HBE := Aside0.mk (below_then HBN.out HBN.out.size ht.bel)
      clear ht
      go_wp2_with fail
      refine (awake22 wr).mono ?_
      rintro e wz ⟨rfl, hbz⟩
      have HBZ := Aside0.mk (below_then HBE.out HBE.out.size hbz)
      clear hbz
      go_wp2_with fail
      go_ret
      exact ⟨rfl, HBZ.out⟩
    have hltI : (i : Int) < nx := by omega
    have hi0 : (0 : Int) ≤ (i : Int) := by omega
    obtain ⟨F', G', ht⟩ := HT.out
    have hlt' : i < xs.length := by rw [← HNX.out]; exact hlt
    obtain ⟨ad, B1, B2, d1, d2, rfl, hm1, hc⟩ := at_mact (Kd.C_below HXS.out HBN.out) i hlt'
    obtain ⟨x, hx⟩ : ∃ x, x = xs[i]'hlt' := ⟨_, rfl⟩
    have hst := stN_succ c (newF c rs) xs i hlt'
    rw [← hx] at hm1 hc hst
    obtain ⟨op, fr, m⟩ := x
    have hm1 : MsgC wN m B1 B2 d1 d2 := hm1
    have hsm : SmallM m := by have := HXSM.out _ (List.getElem_mem hlt'); rw [← hx] at this; exact this
    obtain ⟨mi, hmi⟩ : ∃ mi, mi = stN c (newF c rs) xs i := ⟨_, rfl⟩
    have hok := HOK.out i
    rw [← hmi] at ht hst hok
    obtain ⟨R, hR⟩ : ∃ R, R = stepM c mi ⟨op, fr, m⟩ := ⟨_, rfl⟩
    rw [← hR] at hst
    have hd := done22 ht op fr m B1 B2 d1 d2 hm1 (i : Int) hok.1 (by have := HX80.out; omega) hok.2
    rw [← hR] at hd
    have HRE : Aside0 (R.2.length ≤ 100 ∧ ∀ r ∈ R.2, r.set.length ≤ 1000 ∧ r.prs.length ≤ 1000) := ⟨by
      refine ⟨by have := step_recs c mi ⟨op, fr, m⟩; rw [hR]; omega, fun r hr => ?_⟩
      rw [hR] at hr
      unfold stepM at hr
      split at hr
      · cases hr
      · split at hr
        · cases hr
        · split at hr
          · exact hear_small c mi fr m hsm.1 r hr
          · cases hr⟩
    have hcw : ∀ q u, (rawL ⟨op, fr, m⟩ (.slice B1 m.set.length d1) (.slice B2 m.prs.length d2))[q]? = some u → wr.cell? (ad.add (i * 12 + q)) = some u := fun q u hu => (ht.bel.cell (World.block_lt_of_cell? _ _ (hc q u hu))).trans (hc q u hu)
    have hcells := cell_off hcw
    have hcell0 := hcw 0 _ rfl
    rw [Nat.add_zero] at hcell0
    obtain ⟨P, hP⟩ : ∃ P, ad.add (i * 12) = P := ⟨_, rfl⟩
    rw [hP] at hcells hcell0
    obtain ⟨g0, o0, z0⟩ := P
    obtain rfl := spot_none hcell0
    obtain ⟨ls, hls⟩ : ∃ n, n = m.set.length := ⟨_, rfl⟩
    obtain ⟨lp, hlp⟩ : ∃ n, n = m.prs.length := ⟨_, rfl⟩
    have HRG : Aside0 (wr.rangeAt g0 o0 [.int .i64 op, .int .i64 fr, .int .i64 m.k, .int .i64 m.s, .int .i64 m.a, .int .i64 m.p, .int .i64 m.q, .int .i64 m.n, .int .i64 m.e, .int .i64 m.r, .slice B1 ls d1, .slice B2 lp d2]) := ⟨fun q v hv => by
      rw [hls, hlp] at hv
      cases q with
      | zero =>
        obtain rfl : Value.int .i64 op = v := Option.some.inj hv
        exact hcell0
      | succ q => exact hcells q v hv⟩
    have HD : Aside0 (Calls Try.prog 27 #[.pointer (some ⟨gM, 0, none⟩), .pointer (some ⟨gR, 0, none⟩), .agg #[.int .i64 op, .int .i64 fr, .int .i64 m.k, .int .i64 m.s, .int .i64 m.a, .int .i64 m.p, .int .i64 m.q, .int .i64 m.n, .int .i64 m.e, .int .i64 m.r, .slice B1 ls d1, .slice B2 lp d2]] wr fun e w' => ∃ v, e = .returned (.tuple #[.bool true, v]) ∧ ∃ F' G', TwoM wN w' gM gR F' G' c h R.1 R.1 ∧ RecA wN w' v R.2 F' G') := ⟨by rw [hls, hlp]; exact hd⟩
    have HST := Aside0.mk hst
    clear ht hlt' hm1 hc hx hst hsm hmi hok hR hd hcw hcells hcell0 hls hlp
    go_upto_region 12 with (fail)
    go_wp2_with (refine wpList_load_mid rfl 70 (.tmp 63) rfl g0 o0 rfl _ _ HRG.out hua rfl (by kernel_rfl) ?_)
    with_reducible refine HD.out.mono ?_
    rintro e w5 ⟨v13, rfl, F2, G2, ht5, hra⟩
    have HT5 := Aside0.mk ht5
    have HOV := Aside0.mk (hra.over HRE.out.1 HRE.out.2)
    clear ht5 hra
    go_wp2_with fail
    with_reducible refine HOV.out.mono ?_
    rintro e w6 ⟨rfl, hc6⟩
    have ht6 := HT5.out.chx hc6 (fun k hk => hk)
    have HT6 := Aside0.mk ht6
    have HSTA := Aside0.mk (rState ht6.ma)
    obtain ⟨s0, hs0⟩ : ∃ s, s = R.1.st := ⟨_, rfl⟩
    obtain ⟨y0, hy0⟩ : ∃ s, s = R.1.why := ⟨_, rfl⟩
    obtain ⟨n0, hn0⟩ : ∃ s, s = R.1.now := ⟨_, rfl⟩
    obtain ⟨WL, hWL⟩ : ∃ l, l = winners R.1 := ⟨_, rfl⟩
    have HS0 := Aside0.mk (And.intro hs0 (And.intro hy0 (And.intro hn0 hWL)))
    have HSPN : Aside0 (R.1.sp.length = N) := ⟨by
      obtain ⟨cv, ok, q⟩ := ht6.rf
      rw [q.len, HC.out.1]
      exact HN.out.symm⟩
    have HWL : Aside0 (WL.length ≤ 6) := ⟨by have h1 := winners_len R.1; have h2 := HSPN.out; have h3 := HN6.out; rw [hWL]; omega⟩
    rw [← hs0, ← hy0] at HSTA
    clear hc6 ht6 hs0 hy0 hn0 hWL
    go_wp2_with fail
    with_reducible refine HSTA.out.mono ?_
    rintro e w7 ⟨rfl, hb7⟩
    have HT7 := Aside0.mk (HT6.out.below hb7)
    have HWIN := Aside0.mk (rWinners (HT6.out.below hb7).ma)
    rw [← HS0.out.2.2.2] at HWIN
    clear hb7
    go_wp2_with fail
    with_reducible refine HWIN.out.mono ?_
    rintro e w8 ⟨v16, rfl, hO8, hb8⟩
    obtain ⟨A16, n16, rfl, _, _⟩ := hO8.reads
    have HT8 := Aside0.mk (HT7.out.below hb8)
    have HO8 := Aside0.mk hO8
    have HL7 : Aside0 (w7.heap.size ≤ w8.heap.size) := ⟨hb8.size⟩
    clear hO8 hb8
    have HK0 : Aside0 (∀ w', HeldN w8 w' → (w'.cell? ⟨gR, 47, none⟩ = some (.int .i64 s0) ∧ w'.cell? ⟨gR, 48, none⟩ = some (.int .i64 y0) ∧ w'.cell? ⟨gR, 12, none⟩ = some (.int .i64 n0))) := ⟨fun w' hw => by
      obtain ⟨cv, ok, q⟩ := (HT8.out.below hw).rf
      have e1 := q.c_st
      have e2 := q.c_why
      have e3 := q.c_now
      rw [← HS0.out.1] at e1
      rw [← HS0.out.2.1] at e2
      rw [← HS0.out.2.2.1] at e3
      exact ⟨e1, e2, e3⟩⟩
    have HNOW : Aside0 (∀ w', HeldN w8 w' → Calls Try.prog 22 #[.pointer (some ⟨gM, 0, none⟩)] w' fun e w'' => e = .returned (.int .i64 n0) ∧ HeldN w8 w'') := ⟨fun w' hw => by
      have h1 := rNow (HT8.out.below hw).ma
      rw [← HS0.out.2.2.1] at h1
      exact h1.mono (fun e w'' hh => ⟨hh.1, by rw [hh.2]; exact hw⟩)⟩
    have HRW : Aside0 (∀ w', HeldN w8 w' → Calls Try.prog 31 #[.pointer (some ⟨gR, 0, none⟩)] w' fun e w'' => ∃ A n, e = .returned (.slice A WL.length n) ∧ Kd.C kI w'' A WL.length WL ∧ HeldN w8 w'') := ⟨fun w' hw => by
      have h1 := rrWinners (HT8.out.below hw).rf
      rw [← HS0.out.2.2.2] at h1
      refine h1.mono ?_
      rintro e w'' ⟨v, rfl, hO, hb⟩
      obtain ⟨A, n, rfl, _, hC⟩ := hO.reads
      exact ⟨A, n, rfl, hC, hw.then_ hb⟩⟩
    have HSI : Aside0 (∀ w' A n, HeldN w8 w' → Kd.C kI w' A WL.length WL → Calls Try.prog 30 #[.slice A16 WL.length n16, .slice A WL.length n] w' fun e w'' => e = .returned (.bool true) ∧ HeldN w8 w'') := ⟨fun w' A n hw hC => by
      obtain ⟨A', n', e', _, hC'⟩ := (HO8.out.below hw).reads
      injection e' with e1 e2 e3
      rw [← e1] at hC'
      exact (sameInts A16 n16 WL A n WL w' hC' hC true (by simp)).mono (fun e w'' hh => ⟨hh.1, hw.then_ hh.2⟩)⟩
    have hss : (s0 != s0) = false := by simp
    have hyy : (y0 != y0) = false := by simp
    have hnn : (n0 != n0) = false := by simp
    have hh1 : HeldN w8 w8.drew := below_drew w8
    go_upto_region 16 with (fail)
    refine Rest.begin (S := fun _ w' => (w'.cell? ⟨gR, 47, none⟩ = some (.int .i64 s0) ∧ w'.cell? ⟨gR, 48, none⟩ = some (.int .i64 y0) ∧ w'.cell? ⟨gR, 12, none⟩ = some (.int .i64 n0))) (by kernel_rfl) ?_
    have hs := HK0.out w8.drew hh1
    refine Rest.held (i := 0) (v := ?_) rfl (by kernel_rfl) (by kernel_rfl) (by kernel_rfl) (fun _ _ _ h => h) hs (Or.inl ⟨by kernel_rfl, ?_⟩) ?_
    rotate_left 1
    · (intro w hSw; (try dsimp only at hSw); go_simp; try with_reducible rfl)
    simp only [List.getElem_toArray, List.getElem_cons_succ, List.getElem_cons_zero, Act.put, List.setIfInBounds_toArray, List.set_cons_zero, List.set_cons_succ]
    refine Rest.held (i := 1) (v := ?_) rfl (by kernel_rfl) (by kernel_rfl) (by kernel_rfl) (fun _ _ _ h => h) hs (Or.inl ⟨by kernel_rfl, ?_⟩) ?_
    rotate_left 1
    · (intro w hSw; (try dsimp only at hSw); go_simp; try with_reducible rfl)
    simp only [List.getElem_toArray, List.getElem_cons_succ, List.getElem_cons_zero, Act.put, List.setIfInBounds_toArray, List.set_cons_zero, List.set_cons_succ]
    refine Rest.held (i := 2) (v := ?_) rfl (by kernel_rfl) (by kernel_rfl) (by kernel_rfl) (fun _ _ _ h => h) hs (Or.inl ⟨by kernel_rfl, ?_⟩) ?_
    rotate_left 1
    · (intro w hSw; (try dsimp only at hSw); go_simp; try with_reducible rfl)
    simp only [List.getElem_toArray, List.getElem_cons_succ, List.getElem_cons_zero, Act.put, List.setIfInBounds_toArray, List.set_cons_zero, List.set_cons_succ]
    refine Rest.held (i := 3) (v := ?_) rfl (by kernel_rfl) (by kernel_rfl) (by kernel_rfl) (fun _ _ _ h => h) hs (Or.inl ⟨by kernel_rfl, ?_⟩) ?_
    rotate_left 1
    · (intro w hSw; (try dsimp only at hSw); go_simp; try with_reducible rfl)
    simp only [List.getElem_toArray, List.getElem_cons_succ, List.getElem_cons_zero, Act.put, List.setIfInBounds_toArray, List.set_cons_zero, List.set_cons_succ]
    refine Rest.held (i := 4) (v := ?_) rfl (by kernel_rfl) (by kernel_rfl) (by kernel_rfl) (fun _ _ _ h => h) hs (Or.inl ⟨by kernel_rfl, ?_⟩) ?_
    rotate_left 1
    · (intro w hSw; (try dsimp only at hSw); go_simp; try with_reducible rfl)
    simp only [List.getElem_toArray, List.getElem_cons_succ, List.getElem_cons_zero, Act.put, List.setIfInBounds_toArray, List.set_cons_zero, List.set_cons_succ]
    refine Rest.held (i := 5) (v := ?_) rfl (by kernel_rfl) (by kernel_rfl) (by kernel_rfl) (fun _ _ _ h => h) hs (Or.inl ⟨by kernel_rfl, ?_⟩) ?_
    rotate_left 1
    · (intro w hSw; (try dsimp only at hSw); go_simp; try with_reducible rfl)
    simp only [List.getElem_toArray, List.getElem_cons_succ, List.getElem_cons_zero, Act.put, List.setIfInBounds_toArray, List.set_cons_zero, List.set_cons_succ]
    refine Rest.held (i := 6) (v := ?_) rfl (by kernel_rfl) (by kernel_rfl) (by kernel_rfl) (fun _ _ _ h => h) hs (Or.inl ⟨by kernel_rfl, ?_⟩) ?_
    rotate_left 1
    · (intro w hSw; (try dsimp only at hSw); go_simp; try with_reducible rfl)
    simp only [List.getElem_toArray, List.getElem_cons_succ, List.getElem_cons_zero, Act.put, List.setIfInBounds_toArray, List.set_cons_zero, List.set_cons_succ]
    refine Rest.held (i := 7) (v := ?_) rfl (by kernel_rfl) (by kernel_rfl) (by kernel_rfl) (fun _ _ _ h => h) hs (Or.inl ⟨by kernel_rfl, ?_⟩) ?_
    rotate_left 1
    · (intro w hSw; (try dsimp only at hSw); go_simp; try with_reducible rfl)
    simp only [List.getElem_toArray, List.getElem_cons_succ, List.getElem_cons_zero, Act.put, List.setIfInBounds_toArray, List.set_cons_zero, List.set_cons_succ]
    refine Rest.held (i := 8) (v := ?_) rfl (by kernel_rfl) (by kernel_rfl) (by kernel_rfl) (fun _ _ _ h => h) hs (Or.inl ⟨by kernel_rfl, ?_⟩) ?_
    rotate_left 1
    · (intro w hSw; (try dsimp only at hSw); go_simp; try with_reducible rfl)
    simp only [List.getElem_toArray, List.getElem_cons_succ, List.getElem_cons_zero, Act.put, List.setIfInBounds_toArray, List.set_cons_zero, List.set_cons_succ]
    refine Rest.held (i := 9) (v := ?_) rfl (by kernel_rfl) (by kernel_rfl) (by kernel_rfl) (fun _ _ _ h => h) hs (Or.inl ⟨by kernel_rfl, ?_⟩) ?_
    rotate_left 1
    · (intro w hSw; (try dsimp only at hSw); go_simp; try with_reducible rfl)
    simp only [List.getElem_toArray, List.getElem_cons_succ, List.getElem_cons_zero, Act.put, List.setIfInBounds_toArray, List.set_cons_zero, List.set_cons_succ]
    refine Rest.held (i := 10) (v := ?_) rfl (by kernel_rfl) (by kernel_rfl) (by kernel_rfl) (fun _ _ _ h => h) hs (Or.inl ⟨by kernel_rfl, ?_⟩) ?_
    rotate_left 1
    · (intro w hSw; (try dsimp only at hSw); go_simp; try with_reducible rfl)
    simp only [List.getElem_toArray, List.getElem_cons_succ, List.getElem_cons_zero, Act.put, List.setIfInBounds_toArray, List.set_cons_zero, List.set_cons_succ]
    refine Rest.held (i := 11) (v := ?_) rfl (by kernel_rfl) (by kernel_rfl) (by kernel_rfl) (fun _ _ _ h => h) hs (Or.inl ⟨by kernel_rfl, ?_⟩) ?_
    rotate_left 1
    · (intro w hSw; (try dsimp only at hSw); go_simp; try with_reducible rfl)
    simp only [List.getElem_toArray, List.getElem_cons_succ, List.getElem_cons_zero, Act.put, List.setIfInBounds_toArray, List.set_cons_zero, List.set_cons_succ]
    refine Rest.held (i := 12) (v := ?_) rfl (by kernel_rfl) (by kernel_rfl) (by kernel_rfl) (fun _ _ _ h => h) hs (Or.inl ⟨by kernel_rfl, ?_⟩) ?_
    rotate_left 1
    · (intro w hSw; (try dsimp only at hSw); go_simp; try with_reducible rfl)
    simp only [List.getElem_toArray, List.getElem_cons_succ, List.getElem_cons_zero, Act.put, List.setIfInBounds_toArray, List.set_cons_zero, List.set_cons_succ]
    refine Rest.held (i := 13) (v := ?_) rfl (by kernel_rfl) (by kernel_rfl) (by kernel_rfl) (fun _ _ _ h => h) hs (Or.inl ⟨by kernel_rfl, ?_⟩) ?_
    rotate_left 1
    · (intro w hSw; (try dsimp only at hSw); go_simp; try with_reducible rfl)
    simp only [List.getElem_toArray, List.getElem_cons_succ, List.getElem_cons_zero, Act.put, List.setIfInBounds_toArray, List.set_cons_zero, List.set_cons_succ]
    refine Rest.held (i := 14) (v := ?_) rfl (by kernel_rfl) (by kernel_rfl) (by kernel_rfl) (fun _ _ _ h => h) hs (Or.inl ⟨by kernel_rfl, ?_⟩) ?_
    rotate_left 1
    · (intro w hSw; (try dsimp only at hSw); go_simp; try with_reducible rfl)
    simp only [List.getElem_toArray, List.getElem_cons_succ, List.getElem_cons_zero, Act.put, List.setIfInBounds_toArray, List.set_cons_zero, List.set_cons_succ]
    refine Rest.held (i := 15) (v := ?_) rfl (by kernel_rfl) (by kernel_rfl) (by kernel_rfl) (fun _ _ _ h => h) hs (Or.inl ⟨by kernel_rfl, ?_⟩) ?_
    rotate_left 1
    · (intro w hSw; (try dsimp only at hSw); go_simp; try with_reducible rfl)
    simp only [List.getElem_toArray, List.getElem_cons_succ, List.getElem_cons_zero, Act.put, List.setIfInBounds_toArray, List.set_cons_zero, List.set_cons_succ]
    refine Rest.held (i := 16) (v := ?_) rfl (by kernel_rfl) (by kernel_rfl) (by kernel_rfl) (fun _ _ _ h => h) hs (Or.inl ⟨by kernel_rfl, ?_⟩) ?_
    rotate_left 1
    · (intro w hSw; (try dsimp only at hSw); go_simp; try with_reducible rfl)
    simp only [List.getElem_toArray, List.getElem_cons_succ, List.getElem_cons_zero, Act.put, List.setIfInBounds_toArray, List.set_cons_zero, List.set_cons_succ]
    refine Rest.held (i := 17) (v := ?_) rfl (by kernel_rfl) (by kernel_rfl) (by kernel_rfl) (fun _ _ _ h => h) hs (Or.inl ⟨by kernel_rfl, ?_⟩) ?_
    rotate_left 1
    · (intro w hSw; (try dsimp only at hSw); go_simp; try with_reducible rfl)
    simp only [List.getElem_toArray, List.getElem_cons_succ, List.getElem_cons_zero, Act.put, List.setIfInBounds_toArray, List.set_cons_zero, List.set_cons_succ]
    refine Rest.held (i := 18) (v := ?_) rfl (by kernel_rfl) (by kernel_rfl) (by kernel_rfl) (fun _ _ _ h => h) hs (Or.inl ⟨by kernel_rfl, ?_⟩) ?_
    rotate_left 1
    · (intro w hSw; (try dsimp only at hSw); go_simp; try with_reducible rfl)
    simp only [List.getElem_toArray, List.getElem_cons_succ, List.getElem_cons_zero, Act.put, List.setIfInBounds_toArray, List.set_cons_zero, List.set_cons_succ]
    refine Rest.held (i := 19) (v := ?_) rfl (by kernel_rfl) (by kernel_rfl) (by kernel_rfl) (fun _ _ _ h => h) hs (Or.inl ⟨by kernel_rfl, ?_⟩) ?_
    rotate_left 1
    · (intro w hSw; (try dsimp only at hSw); go_simp; try with_reducible rfl)
    simp only [List.getElem_toArray, List.getElem_cons_succ, List.getElem_cons_zero, Act.put, List.setIfInBounds_toArray, List.set_cons_zero, List.set_cons_succ]
    refine Rest.held (i := 21) (v := ?_) rfl (by kernel_rfl) (by kernel_rfl) (by kernel_rfl) (fun _ _ _ h => h) hs (Or.inl ⟨by kernel_rfl, ?_⟩) ?_
    rotate_left 1
    · (intro w hSw; (try dsimp only at hSw); go_simp; try with_reducible rfl)
    simp only [List.getElem_toArray, List.getElem_cons_succ, List.getElem_cons_zero, Act.put, List.setIfInBounds_toArray, List.set_cons_zero, List.set_cons_succ]
    refine Rest.held (i := 22) (v := ?_) rfl (by kernel_rfl) (by kernel_rfl) (by kernel_rfl) (fun _ _ _ h => h) hs (Or.inl ⟨by kernel_rfl, ?_⟩) ?_
    rotate_left 1
    · (intro w hSw; (try dsimp only at hSw); go_simp; try with_reducible rfl)
    simp only [List.getElem_toArray, List.getElem_cons_succ, List.getElem_cons_zero, Act.put, List.setIfInBounds_toArray, List.set_cons_zero, List.set_cons_succ]
    refine Rest.held (i := 23) (v := ?_) rfl (by kernel_rfl) (by kernel_rfl) (by kernel_rfl) (fun _ _ _ h => h) hs (Or.inl ⟨by kernel_rfl, ?_⟩) ?_
    rotate_left 1
    · (intro w hSw; (try dsimp only at hSw); go_simp; try with_reducible rfl)
    simp only [List.getElem_toArray, List.getElem_cons_succ, List.getElem_cons_zero, Act.put, List.setIfInBounds_toArray, List.set_cons_zero, List.set_cons_succ]
    refine Rest.held (i := 24) (v := ?_) rfl (by kernel_rfl) (by kernel_rfl) (by kernel_rfl) (fun _ _ _ h => h) hs (Or.inl ⟨by kernel_rfl, ?_⟩) ?_
    rotate_left 1
    · (intro w hSw; (try dsimp only at hSw); go_simp; try with_reducible rfl)
    simp only [List.getElem_toArray, List.getElem_cons_succ, List.getElem_cons_zero, Act.put, List.setIfInBounds_toArray, List.set_cons_zero, List.set_cons_succ]
    refine Rest.one (i := 20) (by kernel_rfl) rfl ?_
    intro K hK
    rw [if_pos (by kernel_rfl)]
    go_simp
    go_at_call 22
    ((with_reducible refine (HNOW.out _ hh1).mono ?_); rintro e wa ⟨rfl, hHa⟩)
    replace hs := HK0.out wa hHa
    refine hK.out _ _ hs ?_
    clear hK K
    refine Rest.held (i := 25) (v := ?_) rfl (by kernel_rfl) (by kernel_rfl) (by kernel_rfl) (fun _ _ _ h => h) hs (Or.inl ⟨by kernel_rfl, ?_⟩) ?_
    rotate_left 1
    · (intro w hSw; (try dsimp only at hSw); go_simp; try with_reducible rfl)
    simp only [List.getElem_toArray, List.getElem_cons_succ, List.getElem_cons_zero, Act.put, List.setIfInBounds_toArray, List.set_cons_zero, List.set_cons_succ]
    refine Rest.held (i := 26) (v := ?_) rfl (by kernel_rfl) (by kernel_rfl) (by kernel_rfl) (fun _ _ _ h => h) hs (Or.inl ⟨by kernel_rfl, ?_⟩) ?_
    rotate_left 1
    · (intro w hSw; (try dsimp only at hSw); go_simp; try with_reducible rfl)
    simp only [List.getElem_toArray, List.getElem_cons_succ, List.getElem_cons_zero, Act.put, List.setIfInBounds_toArray, List.set_cons_zero, List.set_cons_succ]
    refine Rest.held (i := 27) (v := ?_) rfl (by kernel_rfl) (by kernel_rfl) (by kernel_rfl) (fun _ _ _ h => h) hs (Or.inl ⟨by kernel_rfl, ?_⟩) ?_
    rotate_left 1
    · (intro w hSw; (try dsimp only at hSw); go_simp; try with_reducible rfl)
    simp only [List.getElem_toArray, List.getElem_cons_succ, List.getElem_cons_zero, Act.put, List.setIfInBounds_toArray, List.set_cons_zero, List.set_cons_succ]
    refine Rest.held (i := 28) (v := ?_) rfl (by kernel_rfl) (by kernel_rfl) (by kernel_rfl) (fun _ _ _ h => h) hs (Or.inl ⟨by kernel_rfl, ?_⟩) ?_
    rotate_left 1
    · (intro w hSw; (try dsimp only at hSw); go_simp; try with_reducible rfl)
    simp only [List.getElem_toArray, List.getElem_cons_succ, List.getElem_cons_zero, Act.put, List.setIfInBounds_toArray, List.set_cons_zero, List.set_cons_succ]
    refine Rest.held (i := 29) (v := ?_) rfl (by kernel_rfl) (by kernel_rfl) (by kernel_rfl) (fun _ _ _ h => h) hs (Or.inl ⟨by kernel_rfl, ?_⟩) ?_
    rotate_left 1
    · (intro w hSw; (try dsimp only at hSw); go_simp; try with_reducible rfl)
    simp only [List.getElem_toArray, List.getElem_cons_succ, List.getElem_cons_zero, Act.put, List.setIfInBounds_toArray, List.set_cons_zero, List.set_cons_succ]
    refine Rest.one (i := 30) (by kernel_rfl) rfl ?_
    intro K hK
    rw [if_pos (by kernel_rfl)]
    go_simp
    go_at_call 31
    ((with_reducible refine (HRW.out _ hHa).mono ?_); rintro e wb ⟨Ab, nb, rfl, hCb, hHb⟩)
    replace hs := HK0.out wb hHb
    refine hK.out _ _ hs ?_
    clear hK K
    refine Rest.one (i := 31) (by kernel_rfl) rfl ?_
    intro K hK
    rw [if_pos (by kernel_rfl)]
    go_simp
    go_at_call 30
    ((with_reducible refine (HSI.out _ _ _ hHb hCb).mono ?_); rintro e wc ⟨rfl, hHc⟩)
    replace hs := HK0.out wc hHc
    refine hK.out _ _ hs ?_
    clear hK K
    refine Rest.held (i := 32) (v := ?_) rfl (by kernel_rfl) (by kernel_rfl) (by kernel_rfl) (fun _ _ _ h => h) hs (Or.inl ⟨by kernel_rfl, ?_⟩) ?_
    rotate_left 1
    · (intro w hSw; (try dsimp only at hSw); go_simp; try with_reducible rfl)
    simp only [List.getElem_toArray, List.getElem_cons_succ, List.getElem_cons_zero, Act.put, List.setIfInBounds_toArray, List.set_cons_zero, List.set_cons_succ]
    refine Rest.held (i := 33) (v := ?_) rfl (by kernel_rfl) (by kernel_rfl) (by kernel_rfl) (fun _ _ _ h => h) hs (Or.inl ⟨by kernel_rfl, ?_⟩) ?_
    rotate_left 1
    · (intro w hSw; (try dsimp only at hSw); go_simp; try with_reducible rfl)
    simp only [List.getElem_toArray, List.getElem_cons_succ, List.getElem_cons_zero, Act.put, List.setIfInBounds_toArray, List.set_cons_zero, List.set_cons_succ]
    refine Rest.done (by kernel_rfl) ?_ _
    have HT9 := Aside0.mk (HT8.out.below hHc)
    have HOV2 := Aside0.mk (overInts (.slice A16 WL.length n16) WL w7.heap.size wc (HO8.out.below hHc) (Nat.le_trans HL7.out (show w8.heap.size ≤ wc.heap.size from hHc.size)) (by have := HWL.out; omega))
    clear hs hHa hHb hHc hCb HK0 HNOW HRW HSI hss hyy hnn hh1
    go_wp2_with fail
    with_reducible refine HOV2.out.mono ?_
    rintro e wd ⟨rfl, hgd⟩
    have HTD : Aside0 (TwoM wN wd gM gR F2 G2 c h R.1 R.1) := ⟨HT9.out.chx (Ch.of_grown (S := fun k => (Value.slice A16 WL.length n16).ownBlock = some k) hgd (fun k hk => hk)) (fun k hk => by
      have h1 := Own.base_ HO8.out k hk
      refine ⟨fun hh => ?_, fun hh => ?_, Nat.le_trans HT7.out.bel.size h1⟩
      · have := HT7.out.ma.flt k hh; omega
      · have := HT7.out.rf.flt k hh; omega)⟩
    have HGD : Aside0 (wd.heap[g]? = some (.cells ([.slice A1 N c1, .int .i64 j.parts, .slice A2 j.map.length c2, .slice A3 j.combine.length c3, .slice A4 j.reduce.length c4, .int .i64 j.chunk, .int .i64 j.window, .int .i64 j.fuel, .slice A5 j.marks.length c5, .int .i64 wk, .int .i64 tr, .int .i64 tmo] : List Value).toArray 28 (0, 0))) := ⟨(HTD.out.bel.block g HGL.out).trans HGN.out⟩
    clear hgd
    go_wp2_with fail
    go_loopg [17, 18, 19, 20] 8 (fun kq v17 v18 v19 v20 w' => ∃ k : Int, (kq : Int) = 7 - k ∧ -1 ≤ k ∧ k ≤ 7 ∧ v17 = .int .i64 k ∧ w' = wd)
    case atStart => exact ⟨-1, by omega, by omega, by omega, rfl, rfl⟩
    case round =>
      obtain ⟨k, hkq, hk1, hk7, rfl, rfl⟩ := hrel
      by_cases hk6 : k ≤ 6
      case' neg =>
        obtain rfl : k = 7 := by omega
        go_wp2_with fail
        go_roundg (nx - (i + 1))
        case measure => omega
        case rel => exact ⟨i + 1, by omega, by go_num, ⟨F2, G2, by rw [HST.out]; exact HTD.out⟩⟩
      have HWI := Aside0.mk (rWinner HTD.out.ma k)
      by_cases hk0 : k < 0
      · rw [winV_out R.1 k (.inl hk0)] at HWI
        have hk0' : decide (0 ≤ k) = false := decide_eq_false (by omega)
        have hk0'' : ¬ 0 ≤ k := by omega
        go_wp2_with fail
        with_reducible refine HWI.out.mono ?_
        rintro e wr ⟨rfl, rfl⟩
        go_wp2_with fail
        go_roundg (7 - (k + 1)).toNat
        case measure => omega
        case rel => exact ⟨k + 1, by omega, by omega, by omega, by go_num, rfl⟩
      · have hk0' : decide (0 ≤ k) = true := decide_eq_true (by omega)
        have hk0'' : 0 ≤ k := by omega
        have x0 : wr.cell? ⟨g, 0, none⟩ = some (.slice A1 N c1) := cell_of_blk HGD.out
        by_cases hkN : k < (N : Int)
        · obtain ⟨q, rfl⟩ : ∃ q : Nat, k = q := ⟨k.toNat, by omega⟩
          have hq6' : q < 6 := by have := HN6.out; omega
          have hq6 : (q : Int) < 6 := by omega
          obtain ⟨cv, ok, p⟩ := HTD.out.rf
          rw [winV_won p q (by rw [HSPN.out]; omega)] at HWI
          obtain ⟨a, ha⟩ : ∃ a, a = wonI (S_ R.1 q) := ⟨_, rfl⟩
          rw [← ha] at HWI
          have f31 := p.c_won q hq6'
          rw [← ha] at f31
          have a31 := add13 gR 31 q
          have haa : (a != a) = false := by simp
          have hbb : (decide (0 < a) != decide (0 < a)) = false := by simp
          clear p ha
          go_wp2_with fail
          with_reducible refine HWI.out.mono ?_
          rintro e wr ⟨rfl, rfl⟩
          go_wp2_with fail
          go_roundg (7 - ((q : Int) + 1)).toNat
          case measure => omega
          case rel => exact ⟨(q : Int) + 1, by omega, by omega, by omega, by go_num, rfl⟩
        · rw [winV_out R.1 k (.inr (by rw [HSPN.out]; omega))] at HWI
          have hkN' : decide (k < (N : Int)) = false := decide_eq_false hkN
          go_wp2_with fail
          with_reducible refine HWI.out.mono ?_
          rintro e wr ⟨rfl, rfl⟩
          go_wp2_with fail
          go_roundg (7 - (k + 1)).toNat
          case measure => omega
          case rel => exact ⟨k + 1, by omega, by omega, by omega, by go_num, rfl⟩
theorem masterScript_walk (W : World) (x0 : CfgD) (cs0 : List Value) (hk0 : kCfg.K W x0 cs0) (hg0 : GCfg x0) (AR : Option Addr) (cR : Nat) (rs : List RecD) (hrs : Kd.C kRec W AR rs.length rs) (hlr : rs.length ≤ cR) (hgr : ∀ r ∈ rs, GRec r) (AX : Option Addr) (cX : Nat) (xs : List MActD) (hxs : Kd.C kMAct W AX xs.length xs) (hlx : xs.length ≤ cX) (hgx : ∀ x ∈ xs, GMAct x) :
    Calls Try.prog 6 #[.agg cs0.toArray, .slice AR rs.length cR, .slice AX xs.length cX] W fun e w' => e = .returned (.bool true) ∧ Below W.heap.size W w' := by
  obtain ⟨B1, B2, B3, B4, B5, d1, d2, d3, d4, d5, rfl, hJ⟩ := kCfg_open hk0
  exact masterScript_in x0.job x0.workers x0.tries x0.timeout B1 B2 B3 B4 B5 d1 d2 d3 d4 d5 W hJ hg0.1.1 AR cR rs hrs hgr AX cX xs hxs hgx
end Go.Proofs.Ytbnhhlahbhjogaa.K
