/- The master: done. WRITTEN BY wip/gen_y12.py. -/
import Derived.Test.YtbnhhlahbhjogaaY11
set_option linter.unusedVariables false
set_option linter.unusedSimpArgs false
set_option maxRecDepth 100000
namespace Go.Proofs.Ytbnhhlahbhjogaa.K
open Go.RowKit Go.Proofs.YtbnhhlahbhjogaaW.PrintWords Go.Proofs.YtbnhhlahbhjogaaW.PrintLast Go.Proofs.YtbnhhlahbhjogaaW.PrintMore Go.Proofs.Ytbnhhlahbhjogaa.U Go.Proofs.Ytbnhhlahbhjogaa.T

/-- Which split is won by a message. -/
def doneK (c : CfgD) (m : MaS) (x : MsgD) : Option Nat := if (∃ y ∈ x.set, y < 0 ∨ 40 < y) ∨ x.a < 1 ∨ c.tries < x.a ∨ (x.set.length : Int) ≠ c.job.parts then none else openN m x.s
open Classical in
theorem doneK_none {c : CfgD} {m : MaS} {x : MsgD} (h : (∃ y ∈ x.set, y < 0 ∨ 40 < y) ∨ x.a < 1 ∨ c.tries < x.a ∨ (x.set.length : Int) ≠ c.job.parts ∨ openN m x.s = none) : doneK c m x = none := by
  unfold doneK
  split
  · rfl
  · rename_i hh
    rcases h with h | h | h | h | h
    · exact absurd (.inl h) hh
    · exact absurd (.inr (.inl h)) hh
    · exact absurd (.inr (.inr (.inl h))) hh
    · exact absurd (.inr (.inr (.inr h))) hh
    · exact h
theorem doneK_some {c : CfgD} {m : MaS} {x : MsgD} {k : Nat} (h1 : ¬ ∃ y ∈ x.set, y < 0 ∨ 40 < y) (h2 : ¬ x.a < 1) (h3 : ¬ c.tries < x.a) (h4 : (x.set.length : Int) = c.job.parts) (h5 : openN m x.s = some k) : doneK c m x = some k := by
  unfold doneK
  rw [if_neg (by rintro (h | h | h | h); exact h1 h; exact h2 h; exact h3 h; exact h h4)]
  exact h5
/-- A master's answer of records. -/
def MaPost (w : World) (gM : Nat) (F : Nat → Prop) (c : CfgD) (m' : MaS) (v : Value) (rs : List RecD) (w' : World) : Prop := ∃ F' B, MaR w' gM F' c m' ∧ (∀ i, F' i → F i ∨ w.heap.size ≤ i) ∧ (∀ i, F' i → i < B) ∧ w.heap.size ≤ B ∧ RecsP w' B v rs ∧ Ch w w' F
section
variable {w w' : World} {gM gS gT : Nat} {F S : Nat → Prop} {c : CfgD} {h : CfH} {zs : List SpV} {C : List Int} {ok : Nat → Prop} {m : MaS}
set_option maxHeartbeats 6400000 in
theorem mDone (p : MaP w gM gS gT F c h zs C ok m) (x : MsgD) (A1 A2 : Option Addr) (c1 c2 : Nat) (hx : ∀ w', Ch w w' F → MsgC w' x A1 A2 c1 c2) :
    Calls Try.prog 45 #[.pointer (some ⟨gM, 0, none⟩), msgV x (.slice A1 x.set.length c1) (.slice A2 x.prs.length c2)] w fun e w' => ∃ v, e = .returned v ∧ (doneK c m x = none → v = .slice none 0 0 ∧ Below w.heap.size w w') ∧ (∀ k, doneK c m x = some k → MaPost w gM F c (winK m k x.a x.set) v [⟨1, 0, x.s, x.a, 0, x.set, []⟩] w') := by
  obtain ⟨ls, hls⟩ : ∃ ls, ls = x.set.length := ⟨_, rfl⟩
  obtain ⟨lp, hlp⟩ : ∃ lp, lp = x.prs.length := ⟨_, rfl⟩
  obtain ⟨g, hg⟩ : ∃ g, g = w.heap.size := ⟨_, rfl⟩
  obtain ⟨wA, hwA⟩ : ∃ wA, wA = w.alloc (.cells #[.int .i64 x.k, .int .i64 x.s, .int .i64 x.a, .int .i64 x.p, .int .i64 x.q, .int .i64 x.n, .int .i64 x.e, .int .i64 x.r, .slice A1 ls c1, .slice A2 lp c2] 45) := ⟨_, rfl⟩
  have hbA : Below w.heap.size w wA := by rw [hwA]; exact (Below.refl _ _).alloc (Nat.le_refl _) _
  have hgA : wA.heap[g]? = some (.cells ([.int .i64 x.k, .int .i64 x.s, .int .i64 x.a, .int .i64 x.p, .int .i64 x.q, .int .i64 x.n, .int .i64 x.e, .int .i64 x.r, .slice A1 ls c1, .slice A2 lp c2] : List Value).toArray 45 (0, 0)) := by rw [hwA, hg]; exact alloc_at w _
  have q := p.below hbA
  have hxA := hx wA (Ch.of_below hbA F)
  have HFAR : Aside0 (∀ w', Ch wA w' F → Kd.C kI w' A1 x.set.length x.set) := ⟨fun w' hc => (hx w' ((Ch.of_below hbA F).trans hc (fun _ _ h => h))).s⟩
  obtain ⟨rb, hrb⟩ := bool_of (∃ y ∈ x.set, y < 0 ∨ 40 < y)
  have HCB := Aside0.mk (containsBad A1 c1 x.set wA hxA.s rb hrb)
  rw [← hls] at HCB
  have HK0 : Aside0 (∀ w', HeldN wA w' → w'.cell? ⟨g, 1, none⟩ = some (.int .i64 x.s) ∧ w'.cell? ⟨g, 2, none⟩ = some (.int .i64 x.a) ∧ w'.cell? ⟨g, 8, none⟩ = some (.slice A1 ls c1) ∧ w'.cell? ⟨gM, 10, none⟩ = some (.int .i64 c.tries) ∧ w'.cell? ⟨gM, 1, none⟩ = some (.int .i64 c.job.parts)) := ⟨fun w' hw => by
    have hq := (hw.block g (blk_lt' hgA)).trans hgA
    exact ⟨cell_of_blk hq, cell_of_blk hq, cell_of_blk hq, (q.below hw).c_tr, (q.below hw).c_parts⟩⟩
  have hgM := q.flt _ q.fM
  have hgF : ∀ i, F i → i ≠ g := fun i hi => by have := p.flt i hi; omega
  have hh0 : HeldN wA wA := Below.refl _ _
  have hhd : ∀ w', HeldN wA w' → HeldN wA w'.drew := fun w' h => h.then_ (below_drew w')
  obtain ⟨k0, c2e, c8e, t10, t1⟩ := HK0.out wA hh0
  have hmx := Kd.C_max hxA.s
  have HQ := Aside0.mk q
  have HX := Aside0.mk hxA
  have HLS := Aside0.mk hls
  have HB := Aside0.mk hbA
  have HWA := Aside0.mk hwA
  have HG := Aside0.mk hg
  have HGA := Aside0.mk hgA
  have HGF := Aside0.mk hgF
  have HRB := Aside0.mk hrb
  have hnone : ∀ v w', doneK c m x = none → v = Value.slice none 0 0 → Below w.heap.size w w' → (doneK c m x = none → v = .slice none 0 0 ∧ Below w.heap.size w w') ∧ (∀ k, doneK c m x = some k → MaPost w gM F c (winK m k x.a x.set) v [⟨1, 0, x.s, x.a, 0, x.set, []⟩] w') := fun v w' h1 h2 h3 => ⟨fun _ => ⟨h2, h3⟩, fun k hk => by rw [h1] at hk; cases hk⟩
  have HNO := Aside0.mk hnone
  rw [← hls] at hmx
  rw [← hls, ← hlp]
  unfold msgV
  clear p q hx hxA hls hlp hwA hg hbA hgA hgF hrb hnone hgM
  go_enter Try.func45, Try.ntmps45
  go_upto_region 1 with (fail)
  rw [show w.alloc (.cells #[.int .i64 x.k, .int .i64 x.s, .int .i64 x.a, .int .i64 x.p, .int .i64 x.q, .int .i64 x.n, .int .i64 x.e, .int .i64 x.r, .slice A1 ls c1, .slice A2 lp c2] 45) = wA from HWA.out.symm, ← HG.out]
  go_wp2_with fail
  refine HCB.out.mono ?_
  rintro e wA ⟨rfl, rfl⟩
  have hcd := (HK0.out wA.drew (hhd _ hh0))
  obtain ⟨d1, d2, d8, d10, dp⟩ := hcd
  cases rb with
  | true =>
    go_upto_region 2 with (fail)
    go_quiet (fail)
    go_wp2_with fail
    go_ret
    exact ⟨_, rfl, HNO.out _ _ (doneK_none (.inl (HRB.out.1 trivial))) rfl (pw_below_drewN HB.out _)⟩
  | false =>
    have HNB : Aside0 (¬ ∃ y ∈ x.set, y < 0 ∨ 40 < y) := ⟨fun h => by have := HRB.out.2 h; cases this⟩
    by_cases h1 : x.a < 1
    · have h1' := decide_eq_true h1
      go_upto_region 2 with (fail)
      go_quiet (fail)
      go_wp2_with fail
      go_ret
      exact ⟨_, rfl, HNO.out _ _ (doneK_none (.inr (.inl h1))) rfl (pw_below_drewN HB.out _)⟩
    · have h1' : decide (x.a < 1) = false := decide_eq_false h1
      by_cases h2 : c.tries < x.a
      · have h2' := decide_eq_true h2
        go_upto_region 2 with (fail)
        go_quiet (fail)
        go_wp2_with fail
        go_ret
        exact ⟨_, rfl, HNO.out _ _ (doneK_none (.inr (.inr (.inl h2)))) rfl (pw_below_drewN HB.out _)⟩
      · have h2' : decide (c.tries < x.a) = false := decide_eq_false h2
        by_cases h3 : (ls : Int) = c.job.parts
        · have h3' : ((ls : Int) != c.job.parts) = false := by rw [h3]; simp
          have HPL : Aside0 ((x.set.length : Int) = c.job.parts) := ⟨by rw [← HLS.out]; exact h3⟩
          have HP1 : Aside0 (x.set.length ≤ 100000000) := ⟨by have := HPL.out; have := HQ.out.may.job.parts.2; omega⟩
          cases ho : openN m x.s with
          | none =>
            have HO := Aside0.mk ho
            have HWN : Aside0 (∀ w', HeldN wA w' → Calls Try.prog 43 #[.pointer (some ⟨gM, 0, none⟩), .int .i64 x.s, .int .i64 x.a, .slice A1 ls c1] w' fun e w'' => e = .returned (.bool false) ∧ HeldN wA w'' ∧ w'' = w') := ⟨fun w' hw => (mWins_no (HQ.out.below hw) x.s x.a (.slice A1 ls c1) HO.out).mono (fun e w'' k => ⟨k.1, by rw [k.2]; exact hw, k.2⟩)⟩
            clear ho
            go_upto_region 2 with (fail)
            go_region_held_law (fun w' => w'.cell? ⟨g, 1, none⟩ = some (.int .i64 x.s) ∧ w'.cell? ⟨g, 2, none⟩ = some (.int .i64 x.a) ∧ w'.cell? ⟨g, 8, none⟩ = some (.slice A1 ls c1) ∧ w'.cell? ⟨gM, 10, none⟩ = some (.int .i64 c.tries) ∧ w'.cell? ⟨gM, 1, none⟩ = some (.int .i64 c.job.parts)) (first | assumption | exact HK0.out _ (by first | assumption | exact hhd _ hh0))
              (first | (go_at_call 43; ((with_reducible refine (HWN.out _ (by first | assumption | exact hhd _ hh0)).mono ?_); rintro e w5 ⟨rfl, hH5, -⟩)))
            all_goals
              have HH5 := Aside0.mk hH5
              clear hH5
              go_wp2_with fail
              go_ret
              exact ⟨_, rfl, HNO.out _ _ (doneK_none (.inr (.inr (.inr (.inr HO.out))))) rfl (below_then HB.out HB.out.size HH5.out)⟩
          | some k =>
            have HO := Aside0.mk ho
            have HDK : Aside0 (doneK c m x = some k) := ⟨doneK_some HNB.out h1 h2 HPL.out ho⟩
            have HWN : Aside0 (∀ w', HeldN wA w' → Calls Try.prog 43 #[.pointer (some ⟨gM, 0, none⟩), .int .i64 x.s, .int .i64 x.a, .slice A1 ls c1] w' fun e w'' => e = .returned (.bool true) ∧ (w''.cell? ⟨g, 1, none⟩ = some (.int .i64 x.s) ∧ w''.cell? ⟨g, 2, none⟩ = some (.int .i64 x.a) ∧ w''.cell? ⟨g, 8, none⟩ = some (.slice A1 ls c1) ∧ w''.cell? ⟨gM, 10, none⟩ = some (.int .i64 c.tries) ∧ w''.cell? ⟨gM, 1, none⟩ = some (.int .i64 c.job.parts)) ∧
                Aside0 ((∃ F' zs' ok', MaP w'' gM gS gT F' c h zs' C ok' (winK m k x.a x.set) ∧ (∀ i, F' i → F i ∨ wA.heap.size ≤ i)) ∧ Ch wA w'' F ∧ Kd.C kI w'' A1 x.set.length x.set ∧ w''.heap[g]? = some (.cells ([.int .i64 x.k, .int .i64 x.s, .int .i64 x.a, .int .i64 x.p, .int .i64 x.q, .int .i64 x.n, .int .i64 x.e, .int .i64 x.r, .slice A1 ls c1, .slice A2 lp c2] : List Value).toArray 45 (0, 0)))) := ⟨fun w' hw => by
              rw [HLS.out]
              refine (mWins (HQ.out.below hw) x.s x.a k A1 c1 x.set HO.out (Kd.C_below HX.out.s hw) HP1.out HPL.out).mono ?_
              rintro e w'' ⟨rfl, ⟨F', zs', ok', p', hF'⟩, hc⟩
              have hq : w''.heap[g]? = some (.cells ([.int .i64 x.k, .int .i64 x.s, .int .i64 x.a, .int .i64 x.p, .int .i64 x.q, .int .i64 x.n, .int .i64 x.e, .int .i64 x.r, .slice A1 ls c1, .slice A2 lp c2] : List Value).toArray 45 (0, 0)) := hc.blk ((hw.block g (blk_lt' HGA.out)).trans HGA.out) (fun hi => HGF.out g hi rfl)
              have hcA : Ch wA w'' F := (Ch.of_below hw F).trans hc (fun _ _ h => h)
              rw [← HLS.out]
              refine ⟨rfl, ⟨cell_of_blk hq, cell_of_blk hq, cell_of_blk hq, p'.c_tr, p'.c_parts⟩, ⟨⟨⟨F', zs', ok', p', fun i hi => ?_⟩, hcA, ?_, hq⟩⟩⟩
              · rcases hF' i hi with h | h
                · exact .inl h
                · exact .inr (Nat.le_trans hw.size h)
              · rw [HLS.out]
                exact HFAR.out w'' hcA⟩
            clear ho
            go_upto_region 2 with (fail)
            go_region_held_law (fun w' => w'.cell? ⟨g, 1, none⟩ = some (.int .i64 x.s) ∧ w'.cell? ⟨g, 2, none⟩ = some (.int .i64 x.a) ∧ w'.cell? ⟨g, 8, none⟩ = some (.slice A1 ls c1) ∧ w'.cell? ⟨gM, 10, none⟩ = some (.int .i64 c.tries) ∧ w'.cell? ⟨gM, 1, none⟩ = some (.int .i64 c.job.parts)) (first | assumption | exact HK0.out _ (by first | assumption | exact hhd _ hh0))
              (first | (go_at_call 43; ((with_reducible refine (HWN.out _ (by first | assumption | exact hhd _ hh0)).mono ?_); rintro e w5 ⟨rfl, hS5, HP5⟩)))
            all_goals
              obtain ⟨⟨F', zs', ok', p', hF'⟩, hcA, hset, hq⟩ := HP5.out
              have hF2 : ∀ i, F' i → F i ∨ w.heap.size ≤ i := fun i hi => (hF' i hi).imp id (fun h => Nat.le_trans HB.out.size h)
              have HP' := Aside0.mk (And.intro p' (And.intro hF2 (And.intro hcA (And.intro hset hq))))
              clear p' hF' hcA hset hq hF2 HWN d1 d2 d8 d10 dp hh0 hhd HK0
              have hh0 : HeldN w5 w5 := Below.refl _ _
              have hhd : ∀ w', HeldN w5 w' → HeldN w5 w'.drew := fun w' h => h.then_ (below_drew w')
              have HK0 : Aside0 (∀ w', HeldN w5 w' → w'.cell? ⟨g, 1, none⟩ = some (.int .i64 x.s) ∧ w'.cell? ⟨g, 2, none⟩ = some (.int .i64 x.a) ∧ w'.cell? ⟨g, 8, none⟩ = some (.slice A1 ls c1)) := ⟨fun w' hw => by
                have hq := (hw.block g (blk_lt' HP'.out.2.2.2.2)).trans HP'.out.2.2.2.2
                exact ⟨cell_of_blk hq, cell_of_blk hq, cell_of_blk hq⟩⟩
              have HCL : Aside0 (∀ w', HeldN w5 w' → Calls Try.prog 68 #[.slice A1 ls c1] w' fun e w'' => ∃ A cp, e = .returned (.slice A ls cp) ∧ Aside0 (Own kI 3 w'' w5.heap.size (.slice A ls cp) x.set) ∧ HeldN w5 w'') := ⟨fun w' hw => by
                have hC := cloneI A1 c1 x.set w' (Kd.C_below HP'.out.2.2.2.1 hw) HP1.out
                rw [← HLS.out] at hC
                refine hC.mono ?_
                rintro e w'' ⟨v, rfl, hO, hb⟩
                obtain ⟨A, cp, rfl, _, _⟩ := hO.reads
                rw [← HLS.out] at hO ⊢
                exact ⟨A, cp, rfl, ⟨hO.lower hw.size⟩, hw.then_ hb⟩⟩
              have HFIN : Aside0 (∀ w6 A cp wZ, HeldN w5 w6 → Own kI 3 w6 w5.heap.size (.slice A ls cp) x.set → wZ = w6.alloc (.cells #[.int .i64 1, .int .i64 0, .int .i64 x.s, .int .i64 x.a, .int .i64 0, .slice A ls cp, .slice none 0 0] 90) → MaPost w gM F c (winK m k x.a x.set) (.slice (some ⟨w6.heap.size, 0, none⟩) 1 1) [⟨1, 0, x.s, x.a, 0, x.set, []⟩] wZ) := ⟨fun w6 A cp wZ hw hO hZ => by
                have hbz : Below w6.heap.size w6 wZ := by rw [hZ]; exact (Below.refl _ _).alloc (Nat.le_refl _) _
                have h5Z := hw.then_ hbz
                refine ⟨F', w5.heap.size, ⟨_, _, _, _, _, _, HP'.out.1.below h5Z⟩, HP'.out.2.1, HP'.out.1.flt, Nat.le_trans HB.out.size HP'.out.2.2.1.size, ?_, ((Ch.of_below HB.out F).trans HP'.out.2.2.1 (fun _ _ h => h)).trans (Ch.of_below h5Z F) (fun _ _ h => h)⟩
                refine recs_lit wZ w5.heap.size ⟨1, 0, x.s, x.a, 0, x.set, []⟩ (.slice A ls cp) w6.heap.size hw.size (fun i => i < w6.heap.size) (Kd.R_below (Kd.R_mono (Kd.R_bound hO) (fun i hi => hi.2.2.1)) hbz) (fun i hi => ⟨by have : i < w6.heap.size := hi; omega, Nat.lt_of_lt_of_le hi hbz.size⟩) rfl ?_
                rw [hZ]
                exact alloc_at w6 _⟩
              clear hS5
              go_upto_region 4 with (fail)
              go_region_held_law (fun w' => w'.cell? ⟨g, 1, none⟩ = some (.int .i64 x.s) ∧ w'.cell? ⟨g, 2, none⟩ = some (.int .i64 x.a) ∧ w'.cell? ⟨g, 8, none⟩ = some (.slice A1 ls c1)) (first | assumption | exact HK0.out _ (by first | assumption | exact hhd _ hh0 | exact HeldN.then_ (by assumption) ((Below.refl _ _).alloc (Nat.le_refl _) _)))
                (first | (go_at_call 68; ((with_reducible refine (HCL.out _ (by first | assumption | exact hhd _ hh0)).mono ?_); rintro e w6 ⟨A, cp, rfl, hO6, hH6⟩)))
              all_goals
                have HEND := HFIN.out w6 A cp _ hH6 hO6.out rfl
                have HEND := Aside0.mk HEND
                clear hO6 hH6
                go_wp2_with fail
                go_ret
                refine ⟨_, rfl, (fun h => by rw [HDK.out] at h; cases h), fun k' hk' => ?_⟩
                rw [HDK.out] at hk'
                injection hk' with hk'
                subst hk'
                exact HEND.out
        · have h3' : ((ls : Int) != c.job.parts) = true := bne_iff_ne.2 h3
          have HNL : Aside0 ((x.set.length : Int) ≠ c.job.parts) := ⟨by rw [← HLS.out]; exact h3⟩
          go_upto_region 2 with (fail)
          go_quiet (fail)
          go_wp2_with fail
          go_ret
          exact ⟨_, rfl, HNO.out _ _ (doneK_none (.inr (.inr (.inr (.inl HNL.out))))) rfl (pw_below_drewN HB.out _)⟩
end
end Go.Proofs.Ytbnhhlahbhjogaa.K
