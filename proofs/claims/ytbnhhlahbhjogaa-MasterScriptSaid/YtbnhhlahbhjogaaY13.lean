/- The master: whole. WRITTEN BY wip/gen_y13.py. -/
import Derived.Test.YtbnhhlahbhjogaaY12
set_option linter.unusedVariables false
set_option linter.unusedSimpArgs false
set_option maxRecDepth 100000
namespace Go.Proofs.Ytbnhhlahbhjogaa.K
open Go.RowKit Go.Proofs.YtbnhhlahbhjogaaW.PrintWords Go.Proofs.YtbnhhlahbhjogaaW.PrintLast Go.Proofs.YtbnhhlahbhjogaaW.PrintMore Go.Proofs.Ytbnhhlahbhjogaa.U Go.Proofs.Ytbnhhlahbhjogaa.T

def rdSet (m : MaS) (k : Nat) : MaS := { m with rd := m.rd.set k true }
def endS (m : MaS) (st why : Int) : MaS := { m with st := st, why := why }
/-- A part is whole. -/
def wholeF (c : CfgD) (m : MaS) (x : MsgD) : MaS × List RecD :=
  if (winners m).length < m.sp.length then (m, []) else if 1 ≤ x.r ∧ x.r ≤ 6 then (endS m 2 x.r, [⟨3, x.p, 0, 1, x.r, [], []⟩]) else if x.r ≠ 0 then (m, [])
  else if false ∈ (rdSet m x.p.toNat).rd.take c.job.parts.toNat then (rdSet m x.p.toNat, []) else (endS (rdSet m x.p.toNat) 1 0, [⟨2, 0, 0, 0, 0, [], []⟩])
section
variable {w w' : World} {gM gS gT : Nat} {F S : Nat → Prop} {c : CfgD} {h : CfH} {zs : List SpV} {C : List Int} {ok : Nat → Prop} {m : MaS}
theorem MaP.c_rd (p : MaP w gM gS gT F c h zs C ok m) (k : Nat) (hk : k < 4) : w.cell? ⟨gM, 14 + k, none⟩ = some (.bool (m.rd.getD k false)) := by
  rw [cell_of_blk p.blk]
  match k, hk with
  | 0, _ => rfl
  | 1, _ => rfl
  | 2, _ => rfl
  | 3, _ => rfl
theorem add14 (g j : Nat) : (⟨g, 14, none⟩ : Addr).add j = ⟨g, 14 + j, none⟩ := by
  simp [Addr.add]
theorem MaP.ready (p : MaP w gM gS gT F c h zs C ok m) (n : Nat) (hn : n ≤ 4) : Kd.C Kd.bool w (some ⟨gM, 14, none⟩) (m.rd.take n).length (m.rd.take n) := by
  refine ⟨rfl, by rw [List.length_take]; show min n m.rd.length ≤ 9223372036854775807; omega, fun _ => ⟨_, rfl, fun j y hj => ?_⟩⟩
  have hjn : j < n := by
    have := (List.getElem?_eq_some_iff.1 hj).1
    rw [List.length_take] at this
    omega
  have hy : y = m.rd.getD j false := by
    rw [List.getElem?_take_of_lt hjn] at hj
    rw [List.getD_eq_getElem?_getD, hj]
    rfl
  refine ⟨[.bool y], rfl, rfl, fun i u hu => ?_⟩
  have hi : i = 0 ∧ u = .bool y := by
    cases i with
    | zero => exact ⟨rfl, by simpa using hu.symm⟩
    | succ i => simp at hu
  obtain ⟨rfl, rfl⟩ := hi
  rw [hy, ← p.c_rd j (by omega)]
  show w.cell? ((⟨gM, 14, none⟩ : Addr).add (j * 1 + 0)) = _
  rw [Nat.mul_one, Nat.add_zero, add14]
theorem MaP.setRd (p : MaP w gM gS gT F c h zs C ok m) (k : Nat) (hk : k < 4) : MaP (w.setCell ⟨gM, 14 + k, none⟩ (.bool true)) gM gS gT F c h zs C ok (rdSet m k) := by
  have hrd := p.rd
  refine p.putM (14 + k) (.bool true) (rdSet m k) ?_ rfl (by show (m.rd.set k true).length = 4; rw [List.length_set]; exact hrd)
  obtain ⟨now, sp, rd, st, why, round⟩ := m
  obtain ⟨b0, b1, b2, b3, rfl⟩ : ∃ b0 b1 b2 b3, rd = [b0, b1, b2, b3] := by
    match rd, hrd with
    | [b0, b1, b2, b3], _ => exact ⟨b0, b1, b2, b3, rfl⟩
  match k, hk with
  | 0, _ => rfl
  | 1, _ => rfl
  | 2, _ => rfl
  | 3, _ => rfl
set_option maxHeartbeats 6400000 in
theorem mWhole (p : MaP w gM gS gT F c h zs C ok m) (x : MsgD) (A1 A2 : Option Addr) (c1 c2 ls lp : Nat) (hp0 : 0 ≤ x.p) (hp1 : x.p < c.job.parts) :
    Calls Try.prog 50 #[.pointer (some ⟨gM, 0, none⟩), msgV x (.slice A1 ls c1) (.slice A2 lp c2)] w fun e w' => ∃ v, e = .returned v ∧ MaPost w gM F c (wholeF c m x).1 v (wholeF c m x).2 w' := by
  obtain ⟨g, hg⟩ : ∃ g, g = w.heap.size := ⟨_, rfl⟩
  obtain ⟨wA, hwA⟩ : ∃ wA, wA = w.alloc (.cells #[.int .i64 x.k, .int .i64 x.s, .int .i64 x.a, .int .i64 x.p, .int .i64 x.q, .int .i64 x.n, .int .i64 x.e, .int .i64 x.r, .slice A1 ls c1, .slice A2 lp c2] 45) := ⟨_, rfl⟩
  have hbA : Below w.heap.size w wA := by rw [hwA]; exact (Below.refl _ _).alloc (Nat.le_refl _) _
  have hgA : wA.heap[g]? = some (.cells ([.int .i64 x.k, .int .i64 x.s, .int .i64 x.a, .int .i64 x.p, .int .i64 x.q, .int .i64 x.n, .int .i64 x.e, .int .i64 x.r, .slice A1 ls c1, .slice A2 lp c2] : List Value).toArray 45 (0, 0)) := by rw [hwA, hg]; exact alloc_at w _
  have q := p.below hbA
  obtain ⟨N, hN⟩ : ∃ N, N = c.job.splits.length := ⟨_, rfl⟩
  have hNs : m.sp.length = N := by rw [hN]; exact p.len
  obtain ⟨nw, hnw⟩ : ∃ nw, nw = (winners m).length := ⟨_, rfl⟩
  obtain ⟨np, hnp⟩ : ∃ np : Nat, c.job.parts = np := ⟨c.job.parts.toNat, by have := p.may.job.parts.1; omega⟩
  have hnp4 : np ≤ 4 := by have := p.may.job.parts.2; omega
  obtain ⟨kp, hkp⟩ : ∃ kp : Nat, x.p = kp := ⟨x.p.toNat, by omega⟩
  have hkp4 : kp < 4 := by omega
  have hgF : ∀ i, F i → i ≠ g := fun i hi => by have := p.flt i hi; omega
  -- what stands at a world reached by reading
  have HK0 : Aside0 (∀ w', HeldN wA w' → w'.cell? ⟨gM, 13, none⟩ = some (.slice (some ⟨gS, 0, none⟩) N N)) := ⟨fun w' hw => by rw [hN]; exact (q.below hw).c_sp⟩
  have HWN : Aside0 (∀ w', HeldN wA w' → Calls Try.prog 29 #[.pointer (some ⟨gM, 0, none⟩)] w' fun e w'' => ∃ A cp, e = .returned (.slice A nw cp) ∧ HeldN wA w'') := ⟨fun w' hw => by
    refine (mWinners (q.below hw)).mono ?_
    rintro e w'' ⟨v, rfl, hO, hb⟩
    obtain ⟨A, cp, rfl, _, _⟩ := hO.reads
    exact ⟨A, cp, by rw [hnw], hw.then_ hb⟩⟩
  have hh0 : HeldN wA wA := Below.refl _ _
  have hhd : ∀ w', HeldN wA w' → HeldN wA w'.drew := fun w' h => h.then_ (below_drew w')
  have k13 := HK0.out wA hh0
  have d13 := HK0.out wA.drew (hhd _ hh0)
  have hsame : ∀ w', HeldN wA w' → MaPost w gM F c m (.slice none 0 0) [] w' := fun w' hw => ⟨F, w.heap.size, ⟨gS, gT, h, zs, C, ok, q.below hw⟩, fun _ hi => .inl hi, p.flt, Nat.le_refl _, RecsP.nil _ _, (Ch.of_below hbA F).trans (Ch.of_below hw F) (fun _ _ h => h)⟩
  have hendP : ∀ w1 m1 st why v rs w', Ch w w1 F → MaP w1 gM gS gT F c h zs C ok m1 → RecsP w' w1.heap.size v rs → MaP w' gM gS gT F c h zs C ok { m1 with st := st, why := why } → Ch w1 w' F → MaPost w gM F c (endS m1 st why) v rs w' := fun w1 m1 st why v rs w' hc1 p1 hR p2 hc2 => ⟨F, w1.heap.size, ⟨gS, gT, h, zs, C, ok, p2⟩, fun _ hi => .inl hi, p1.flt, hc1.size, hR, hc1.trans hc2 (fun _ _ h => h)⟩
  have HSAME := Aside0.mk hsame
  have HENDP := Aside0.mk hendP
  have HQ := Aside0.mk q
  have HB := Aside0.mk hbA
  have HWA := Aside0.mk hwA
  have HG := Aside0.mk hg
  have HGA := Aside0.mk hgA
  have HGF := Aside0.mk hgF
  have HGF2 := Aside0.mk p.flt
  have HWF : Aside0 (wholeF c m x = if nw < N then (m, []) else if 1 ≤ x.r ∧ x.r ≤ 6 then (endS m 2 x.r, [⟨3, x.p, 0, 1, x.r, [], []⟩]) else if x.r ≠ 0 then (m, []) else if false ∈ (rdSet m kp).rd.take np then (rdSet m kp, []) else (endS (rdSet m kp) 1 0, [⟨2, 0, 0, 0, 0, [], []⟩])) := ⟨by unfold wholeF; rw [← hnw, hNs, hkp, hnp, Int.toNat_natCast, Int.toNat_natCast]⟩
  obtain ⟨R, hR⟩ : ∃ R, R = wholeF c m x := ⟨_, rfl⟩
  rw [← hR]
  rw [← hR] at HWF
  have hnwI : ((nw : Int) < (N : Int)) ↔ nw < N := by omega
  have HNW := Aside0.mk hnwI
  have HKP := Aside0.mk hkp
  have HNP := Aside0.mk hnp
  clear p q hwA hg hbA hgA hgF hsame hendP hN hNs hnw hnwI hp0 hp1 hkp hnp hR
  unfold msgV
  go_enter Try.func50, Try.ntmps50
  go_upto_region 1 with (fail)
  rw [show w.alloc (.cells #[.int .i64 x.k, .int .i64 x.s, .int .i64 x.a, .int .i64 x.p, .int .i64 x.q, .int .i64 x.n, .int .i64 x.e, .int .i64 x.r, .slice A1 ls c1, .slice A2 lp c2] 45) = wA from HWA.out.symm, ← HG.out]
  go_region_held_law (fun w' => w'.cell? ⟨gM, 13, none⟩ = some (.slice (some ⟨gS, 0, none⟩) N N)) (first | assumption | exact HK0.out _ (by first | assumption | exact hhd _ hh0))
    (first | (go_at_call 29; ((with_reducible refine (HWN.out _ (by first | assumption | exact hhd _ hh0)).mono ?_); rintro e w5 ⟨A, cp, rfl, hH5⟩)))
  all_goals
    have hq5 := (hH5.block g (blk_lt' HGA.out)).trans HGA.out
    have f7 : w5.cell? ⟨g, 7, none⟩ = some (.int .i64 x.r) := cell_of_blk hq5
    have f3 : w5.cell? ⟨g, 3, none⟩ = some (.int .i64 x.p) := cell_of_blk hq5
    have HH5 := Aside0.mk hH5
    clear hH5 hq5 hh0 hhd k13 d13
    by_cases hlt : nw < N
    · have hltI : (nw : Int) < N := HNW.out.2 hlt
      have HR : Aside0 (R = (m, [])) := ⟨by rw [HWF.out, if_pos hlt]⟩
      go_wp2_with fail
      go_ret
      exact ⟨_, rfl, by rw [HR.out]; exact HSAME.out _ HH5.out⟩
    · have hltI : ¬ (nw : Int) < N := fun h => hlt (HNW.out.1 h)
      have HW2 := HWF.out
      rw [if_neg hlt] at HW2
      have HW3 := Aside0.mk HW2
      clear hlt HW2
      go_wp2_with fail
      refine (reason_ x.r w5).mono ?_
      rintro e w5 ⟨rfl, rfl⟩
      by_cases hr : 1 ≤ x.r ∧ x.r ≤ 6
      · rw [decide_eq_true hr]
        have HR : Aside0 (R = (endS m 2 x.r, [⟨3, x.p, 0, 1, x.r, [], []⟩])) := ⟨by rw [HW3.out, if_pos hr]⟩
        have HE := Aside0.mk (mEnds (HQ.out.below HH5.out) 2 x.r 3 x.p 0 1 x.r)
        unfold recV at HE
        clear hr
        go_wp2_with fail
        refine HE.out.mono ?_
        rintro e w6 ⟨v, rfl, hR, p2, hc⟩
        have HEND := Aside0.mk (HENDP.out w5 m 2 x.r v _ w6 ((Ch.of_below HB.out F).trans (Ch.of_below HH5.out F) (fun _ _ h => h)) (HQ.out.below HH5.out) hR p2 hc)
        clear hR p2 hc
        go_wp2_with fail
        go_ret
        exact ⟨_, rfl, by rw [HR.out]; exact HEND.out⟩
      · rw [decide_eq_false hr]
        have HW4 := HW3.out
        rw [if_neg hr] at HW4
        have HW5 := Aside0.mk HW4
        clear hr HW4
        by_cases hr0 : x.r = 0
        · have hb0 : (x.r != 0) = false := by rw [hr0]; rfl
          have HW6 := HW5.out
          rw [if_neg (fun hh => hh hr0)] at HW6
          have HW7 := Aside0.mk HW6
          clear hr0 HW6
          rw [HKP.out] at f3
          have q5 := HQ.out.below HH5.out
          have r14 := q5.c_rd kp hkp4
          have z14 := q5.frM (14 + kp)
          have ha := add14 gM kp
          have hk0 : (0 : Int) ≤ (kp : Int) := by omega
          have hk1 : (kp : Int) < 4 := by omega
          clear q5
          go_upto_region 7 with (fail)
          go_region
          all_goals
            go_upto_region 8 with (fail)
            have p7 := (((HQ.out.below HH5.out).setRd kp hkp4)).below (below_drew _)
            have hc7 : Ch w5 ((w5.setCell ⟨gM, 14 + kp, none⟩ (.bool true)).drew) F := ((HQ.out.below HH5.out).chM (14 + kp) (.bool true)).trans (Ch.of_below (below_drew _) F) (fun _ _ h => h)
            obtain ⟨w7, hw7⟩ : ∃ w7, w7 = (w5.setCell ⟨gM, 14 + kp, none⟩ (.bool true)).drew := ⟨_, rfl⟩
            rw [← hw7] at p7 hc7 ⊢
            have hlen : ((rdSet m kp).rd.take np).length = np := by
              have := p7.rd
              rw [List.length_take]
              omega
            obtain ⟨rr, hrr⟩ := bool_of (false ∈ (rdSet m kp).rd.take np)
            have HCB : Aside0 (∀ w', HeldN w7 w' → Calls Try.prog 75 #[.slice (some ⟨gM, 14, none⟩) np 4, .bool false] w' fun e w'' => e = .returned (.bool rr) ∧ HeldN w7 w'') := ⟨fun w' hw => by
              have hC := containsB (some ⟨gM, 14, none⟩) 4 ((rdSet m kp).rd.take np) w' ((p7.below hw).ready np hnp4) rr hrr
              rw [hlen] at hC
              exact hC.mono (fun e w'' k => ⟨k.1, by rw [k.2]; exact hw⟩)⟩
            have HK7 : Aside0 (∀ w', HeldN w7 w' → w'.cell? ⟨gM, 1, none⟩ = some (.int .i64 np)) := ⟨fun w' hw => by rw [← HNP.out]; exact (p7.below hw).c_parts⟩
            have hh0 : HeldN w7 w7 := Below.refl _ _
            have hhd : ∀ w', HeldN w7 w' → HeldN w7 w'.drew := fun w' h => h.then_ (below_drew w')
            have k1 := HK7.out w7 hh0
            have d1 := HK7.out w7.drew (hhd _ hh0)
            have hn0 : (0 : Int) ≤ (np : Int) := by omega
            have hn4 : (np : Int) ≤ 4 := by omega
            have hc07 : Ch w w7 F := ((Ch.of_below HB.out F).trans (Ch.of_below HH5.out F) (fun _ _ h => h)).trans hc7 (fun _ _ h => h)
            have HP7 := Aside0.mk (And.intro p7 (And.intro hc7 hc07))
            have HRR := Aside0.mk hrr
            clear p7 hc7 hc07 hw7 hlen hrr f7 f3 r14 z14 ha
            go_region_held_law (fun w' => w'.cell? ⟨gM, 1, none⟩ = some (.int .i64 np)) (first | assumption | exact HK7.out _ (by first | assumption | exact hhd _ hh0))
              (first | (go_at_call 75; ((with_reducible refine (HCB.out _ (by first | assumption | exact hhd _ hh0)).mono ?_); rintro e w8 ⟨rfl, hH8⟩)))
            all_goals
              have HH8 := Aside0.mk hH8
              clear hH8 hh0 hhd k1 d1
              cases rr with
              | true =>
                have HR : Aside0 (R = (rdSet m kp, [])) := ⟨by rw [HW7.out, if_pos (HRR.out.1 rfl)]⟩
                go_wp2_with fail
                go_ret
                exact ⟨_, rfl, by rw [HR.out]; exact ⟨F, w.heap.size, ⟨_, _, _, _, _, _, HP7.out.1.below HH8.out⟩, fun _ hi => .inl hi, HGF2.out, Nat.le_refl _, RecsP.nil _ _, HP7.out.2.2.trans (Ch.of_below HH8.out F) (fun _ _ h => h)⟩⟩
              | false =>
                have HR : Aside0 (R = (endS (rdSet m kp) 1 0, [⟨2, 0, 0, 0, 0, [], []⟩])) := ⟨by rw [HW7.out, if_neg (fun h => absurd (HRR.out.2 h) (by decide))]⟩
                have HE := Aside0.mk (mEnds (HP7.out.1.below HH8.out) 1 0 2 0 0 0 0)
                unfold recV at HE
                go_wp2_with fail
                refine HE.out.mono ?_
                rintro e w9 ⟨v, rfl, hR, p2, hc⟩
                have HEND := Aside0.mk (HENDP.out w8 (rdSet m kp) 1 0 v _ w9 (HP7.out.2.2.trans (Ch.of_below HH8.out F) (fun _ _ h => h)) (HP7.out.1.below HH8.out) hR p2 hc)
                clear hR p2 hc
                go_wp2_with fail
                go_ret
                exact ⟨_, rfl, by rw [HR.out]; exact HEND.out⟩
        · have hb0 : (x.r != 0) = true := bne_iff_ne.2 hr0
          have HR : Aside0 (R = (m, [])) := ⟨by rw [HW5.out, if_pos hr0]⟩
          clear hr0
          go_wp2_with fail
          go_ret
          exact ⟨_, rfl, by rw [HR.out]; exact HSAME.out _ HH5.out⟩
end
end Go.Proofs.Ytbnhhlahbhjogaa.K
