/- The master: Wake. WRITTEN BY wip/gen_y15.py. -/
import Derived.Test.YtbnhhlahbhjogaaY14
set_option linter.unusedVariables false
set_option linter.unusedSimpArgs false
set_option maxRecDepth 100000
namespace Go.Proofs.Ytbnhhlahbhjogaa.K
open Go.RowKit Go.Proofs.YtbnhhlahbhjogaaW.PrintWords Go.Proofs.YtbnhhlahbhjogaaW.PrintLast Go.Proofs.YtbnhhlahbhjogaaW.PrintMore Go.Proofs.Ytbnhhlahbhjogaa.U Go.Proofs.Ytbnhhlahbhjogaa.T
attribute [local go_sem] max2_int min2_int

/-- What numbers a master may have. -/
structure MaB (m : MaS) (B : Int) : Prop where
  n0 : 0 ≤ m.now
  n1 : m.now ≤ 1099511627776
  r0 : 0 ≤ m.round
  r1 : m.round ≤ B
  a0 : ∀ s ∈ m.sp, 0 ≤ s.asked
  a1 : ∀ s ∈ m.sp, s.asked ≤ B
  t0 : ∀ s ∈ m.sp, 0 ≤ s.tr
  t1 : ∀ s ∈ m.sp, s.tr ≤ 4
  l0 : ∀ s ∈ m.sp, 0 ≤ s.at_
  l1 : ∀ s ∈ m.sp, s.at_ ≤ 1099511627776
def skipW (c : CfgD) (m : MaS) (k : Nat) : Bool := (m.sp.getD k zeroS).won || (decide (0 < (m.sp.getD k zeroS).tr) && decide (m.now - (m.sp.getD k zeroS).at_ < c.timeout))
theorem skip_iff (c : CfgD) (m : MaS) (k : Nat) : skipW c m k = true ↔ ((m.sp.getD k zeroS).won = true ∨ (0 < (m.sp.getD k zeroS).tr ∧ m.now - (m.sp.getD k zeroS).at_ < c.timeout)) := by
  unfold skipW
  simp only [Bool.or_eq_true, Bool.and_eq_true, decide_eq_true_eq]
def wakeSp (c : CfgD) (now : Int) (s : SpS) : SpS := { s with asked := s.asked + 1, tr := min (s.tr + 1) c.tries, at_ := now }
def wakeUp (c : CfgD) (m : MaS) : Nat → MaS × List FLet
  | 0 => (m, [])
  | k + 1 => if skipW c m k = true then wakeUp c m k else ({ (wakeUp c m k).1 with sp := (wakeUp c m k).1.sp.set k (wakeSp c m.now (m.sp.getD k zeroS)) }, (wakeUp c m k).2 ++ [runL c (k + (m.sp.getD k zeroS).asked) k (min ((m.sp.getD k zeroS).tr + 1) c.tries)])
def wakeF (c : CfgD) (m : MaS) : MaS × List FLet := if m.st = 0 then wakeUp c m m.sp.length else (m, [])
theorem wakeUp_same (c : CfgD) (m : MaS) (k : Nat) : (wakeUp c m k).1.now = m.now ∧ (wakeUp c m k).1.sp.length = m.sp.length ∧ (wakeUp c m k).1.rd = m.rd ∧ (wakeUp c m k).1.st = m.st ∧ (wakeUp c m k).1.why = m.why ∧ (wakeUp c m k).1.round = m.round := by
  induction k with
  | zero => exact ⟨rfl, rfl, rfl, rfl, rfl, rfl⟩
  | succ k ih =>
    unfold wakeUp
    split
    · exact ih
    · obtain ⟨h1, h2, h3, h4, h5, h6⟩ := ih
      exact ⟨h1, by rw [List.length_set]; exact h2, h3, h4, h5, h6⟩
theorem wakeUp_get (c : CfgD) (m : MaS) (k j : Nat) (h : k ≤ j) : (wakeUp c m k).1.sp.getD j zeroS = m.sp.getD j zeroS := by
  induction k with
  | zero => rfl
  | succ k ih =>
    unfold wakeUp
    split
    · exact ih (by omega)
    · show List.getD (List.set _ _ _) _ _ = _
      rw [List.getD_eq_getElem?_getD, List.getElem?_set_ne (by omega), ← List.getD_eq_getElem?_getD]
      exact ih (by omega)
theorem getD_mem_or (l : List SpS) (k : Nat) (h : k < l.length) : l.getD k zeroS ∈ l := by
  rw [List.getD_eq_getElem?_getD, List.getElem?_eq_getElem h]
  exact List.getElem_mem h
theorem getD_set_self (l : List SpS) (k : Nat) (h : k < l.length) (x : SpS) : (l.set k x).getD k zeroS = x := by
  rw [List.getD_eq_getElem?_getD, List.getElem?_set_self h]
  rfl
section
variable {w w' : World} {gM gS gT : Nat} {F S : Nat → Prop} {c : CfgD} {h : CfH} {zs : List SpV} {C : List Int} {ok : Nat → Prop} {m : MaS}
theorem MaP.put1 (p : MaP w gM gS gT F c h zs C ok m) (k : Nat) (hk : k < c.job.splits.length) (j : Nat) (hj : j < 6) (v : Value) (s' : SpS) (hs : ∀ cv, rawS ⟨s', cv⟩ = (rawS ⟨m.sp.getD k zeroS, cv⟩).set j v) (hw : s'.won = false) : ∃ zs', MaP (w.setCell ⟨gS, k * 6 + j, none⟩ v) gM gS gT F c h zs' C ok { m with sp := m.sp.set k s' } := by
  obtain ⟨cv, hz, _⟩ := p.split k hk
  exact ⟨_, p.putS k (by rw [p.zlen]; exact hk) j hj v ⟨s', cv⟩ (by rw [hz]; exact hs cv) (fun h => by rw [hw] at h; cases h)⟩
theorem MaP.put02 (p : MaP w gM gS gT F c h zs C ok m) (k : Nat) (hk : k < c.job.splits.length) (s : SpS) (hs : m.sp.getD k zeroS = s) (hw : s.won = false) (a t : Int) : ∃ zs', MaP ((w.setCell ⟨gS, k * 6, none⟩ (.int .i64 a)).setCell ⟨gS, k * 6 + 2, none⟩ (.int .i64 t)) gM gS gT F c h zs' C ok { m with sp := m.sp.set k { s with asked := a, at_ := t } } := by
  obtain ⟨z1, p1⟩ := p.put1 k hk 0 (by omega) (.int .i64 a) { s with asked := a } (fun cv => by rw [hs]; rfl) hw
  have hl : k < m.sp.length := by rw [p.len]; exact hk
  obtain ⟨z2, p2⟩ := p1.put1 k hk 2 (by omega) (.int .i64 t) { s with asked := a, at_ := t } (fun cv => by
    show _ = (rawS ⟨(m.sp.set k _).getD k zeroS, cv⟩).set 2 _
    rw [getD_set_self _ _ hl]
    rfl) hw
  refine ⟨z2, ?_⟩
  have e : (m.sp.set k { s with asked := a }).set k { s with asked := a, at_ := t } = m.sp.set k { s with asked := a, at_ := t } := List.set_set ..
  rw [← e]
  exact p2
set_option maxHeartbeats 12800000 in
theorem mWake (p : MaP w gM gS gT F c h zs C ok m) (B : Int) (hB : MaB m B) (hB6 : B ≤ 1000000) :
    Calls Try.prog 18 #[.pointer (some ⟨gM, 0, none⟩)] w fun e w' => ∃ v, e = .returned v ∧ MaPostL w gM F c (wakeF c m).1 v (wakeF c m).2 w' := by
  have hc := p.c_st
  obtain ⟨N, hN⟩ : ∃ N, N = c.job.splits.length := ⟨_, rfl⟩
  have hNs : m.sp.length = N := by rw [hN]; exact p.len
  have hN6 : N ≤ 6 := by have := p.may.job.splits.2; omega
  have ht3 : c.tries ≤ 3 ∧ 1 ≤ c.tries := ⟨p.may.tries.2, p.may.tries.1⟩
  have hcn := p.c_sp
  rw [← hN] at hcn
  obtain ⟨R, hR⟩ : ∃ R, R = wakeF c m := ⟨_, rfl⟩
  rw [← hR]
  have HRR := Aside0.mk hR
  have HP := Aside0.mk p
  have HN := Aside0.mk hN
  have HNS := Aside0.mk hNs
  have HT3 := Aside0.mk ht3
  have HBB := Aside0.mk hB
  clear p hN hNs hR hB ht3
  by_cases hst : m.st = 0
  · have HRW : Aside0 (R = wakeUp c m N) := ⟨by rw [HRR.out]; unfold wakeF; rw [if_pos hst, HNS.out]⟩
    rw [hst] at hc
    clear hst
    go_enter Try.func18, Try.ntmps18
    go_wp2_with fail
    go_loopg [3, 4, 5, 20] N (fun kq v3 v4 v5 v20 w' => ∃ (k : Nat) (A3 : Option Addr) (n3 l3 : Nat), k + kq = N ∧ v20 = .int .i64 k ∧ v3 = .slice A3 l3 n3 ∧ Aside0 (l3 ≤ k) ∧ Aside0 (∃ zs', MaP w' gM gS gT F c h zs' C ok (wakeUp c m k).1) ∧ Aside0 (LetsP w' w.heap.size (.slice A3 l3 n3) (wakeUp c m k).2) ∧ Aside0 (Ch w w' F))
    case atStart => exact ⟨0, none, 0, 0, by omega, rfl, rfl, ⟨by omega⟩, ⟨zs, HP.out⟩, ⟨LetsP.nil _ _⟩, ⟨Ch.refl _ _⟩⟩
    case round =>
      obtain ⟨k, A3, n3, l3, hk, rfl, rfl, HL3, HQ', HLE, HCH⟩ := hrel
      obtain ⟨zs', hq⟩ := HQ'.out
      have HQ := Aside0.mk hq
      clear HQ' hq hc hcn
      by_cases hlt : k < N
      · have hltI : (k : Int) < N := by omega
        have hk0 : (0 : Int) ≤ (k : Int) := by omega
        have hkc : k < c.job.splits.length := by rw [← HN.out]; exact hlt
        have HKC := Aside0.mk hkc
        obtain ⟨hsn, hsl, hsr, hss, hsw, hso⟩ := wakeUp_same c m k
        have hget := wakeUp_get c m k k (Nat.le_refl _)
        obtain ⟨s, hs⟩ : ∃ s, s = m.sp.getD k zeroS := ⟨_, rfl⟩
        rw [← hs] at hget
        have hmem : s ∈ m.sp := by rw [hs]; exact getD_mem_or _ _ (by rw [HNS.out]; exact hlt)
        obtain ⟨cv, hz, f0, f1, f2, f3, f4, f5⟩ := HQ.out.split k hkc
        rw [hget] at f0 f1 f2 f3
        have hcn := HQ.out.c_now
        have hct := HQ.out.c_tr
        have hcm := HQ.out.c_tmo
        rw [hsn] at hcn
        have hb := HBB.out
        have ha0 := hb.a0 s hmem
        have ha1 : s.asked ≤ 1000000 := Int.le_trans (hb.a1 s hmem) hB6
        have ht0 := hb.t0 s hmem
        have ht1 := hb.t1 s hmem
        have hl0 := hb.l0 s hmem
        have hl1 := hb.l1 s hmem
        have hn0 := hb.n0
        have hn1 := hb.n1
        have hm50 := HQ.out.may.timeout
        have hm0 : 0 ≤ c.timeout := by omega
        have hm1 : c.timeout ≤ 50 := hm50.2
        have htt := HT3.out
        have htr3 : c.tries ≤ 3 := htt.1
        have htr1 : 1 ≤ c.tries := htt.2
        have HS := Aside0.mk hs
        have HGET := Aside0.mk hget
        have HSN := Aside0.mk hsn
        have HSL := Aside0.mk hsl
        cases hw : s.won with
        | true =>
          have HOP : Aside0 (Calls Try.prog 46 #[.pointer (some ⟨gM, 0, none⟩), .int .i64 k] wr fun e w' => e = .returned (.pointer none) ∧ w' = wr) := ⟨by
            have h1 := mOpen HQ.out k
            have h2 : openN (wakeUp c m k).1 k = none := by unfold openN; rw [if_neg (fun hh => by rw [Int.toNat_natCast, hget, hw] at hh; exact absurd hh.2.2 (by decide))]
            rw [h2] at h1
            exact h1⟩
          have HSK : Aside0 (wakeUp c m (k + 1) = wakeUp c m k) := ⟨by show (if _ then _ else _) = _; rw [if_pos ((skip_iff c m k).2 (.inl (by rw [← hs]; exact hw)))]⟩
          clear f0 f1 f2 f3 f4 f5 hz hget hs hsn hsl hsr hss hsw hso hmem hw hb hm50 htt
          go_wp2_with fail
          refine HOP.out.mono ?_
          rintro e wr ⟨rfl, rfl⟩
          go_upto_region 8 with (fail)
          go_quiet (fail)
          go_wp2_with fail
          go_roundg (N - (k + 1))
          case measure => omega
          case rel => exact ⟨k + 1, A3, n3, l3, by omega, by go_num, rfl, ⟨by have := HL3.out; omega⟩, ⟨by rw [HSK.out]; exact ⟨zs', (HQ.out.below (pw_below_drewN (Below.refl _ _) _))⟩⟩, ⟨by rw [HSK.out]; exact LetsP.below HLE.out (pw_below_drewN (Below.refl _ _) _)⟩, ⟨HCH.out.trans (Ch.of_below (pw_below_drewN (Below.refl _ _) _) F) (fun _ _ h => h)⟩⟩
        | false =>
          have HOP : Aside0 (Calls Try.prog 46 #[.pointer (some ⟨gM, 0, none⟩), .int .i64 k] wr fun e w' => e = .returned (.pointer (some ⟨gS, k * 6, none⟩)) ∧ w' = wr) := ⟨by
            have h1 := mOpen HQ.out k
            have h2 : openN (wakeUp c m k).1 k = some k := by unfold openN; rw [if_pos ⟨by omega, by rw [hsl, HNS.out]; exact hltI, by rw [Int.toNat_natCast, hget, hw]⟩, Int.toNat_natCast]
            rw [h2] at h1
            exact h1⟩
          have HWF := Aside0.mk hw
          have z1 := HQ.out.frS (k * 6 + 1)
          have hd1 : wr.drew.cell? ⟨gS, k * 6 + 1, none⟩ = some (.int .i64 s.tr) := (Ch.of_below (below_drew wr) (fun _ => False)).cell f1 (fun h => h)
          have hd2 : wr.drew.cell? ⟨gS, k * 6 + 2, none⟩ = some (.int .i64 s.at_) := (Ch.of_below (below_drew wr) (fun _ => False)).cell f2 (fun h => h)
          have hdn : wr.drew.cell? ⟨gM, 12, none⟩ = some (.int .i64 m.now) := (Ch.of_below (below_drew wr) (fun _ => False)).cell hcn (fun h => h)
          have hdm : wr.drew.cell? ⟨gM, 11, none⟩ = some (.int .i64 c.timeout) := (Ch.of_below (below_drew wr) (fun _ => False)).cell hcm (fun h => h)
          clear hz hget hs hsn hsl hsr hss hsw hso hmem hw hb hm50 htt f3 f4 f5
          go_wp2_with fail
          refine HOP.out.mono ?_
          rintro e wr ⟨rfl, rfl⟩
          have HWR : Aside0 (IntKind.i64.wrap ((k : Int) + s.asked) = (k : Int) + s.asked) := ⟨IntWalk.i64_in _ (by omega)⟩
          by_cases h1 : 0 < s.tr
          · have h1' := decide_eq_true h1
            by_cases h2 : m.now - s.at_ < c.timeout
            · have h2' := decide_eq_true h2
              have HSK : Aside0 (wakeUp c m (k + 1) = wakeUp c m k) := ⟨by show (if _ then _ else _) = _; rw [if_pos ((skip_iff c m k).2 (.inr ⟨by rw [← HS.out]; exact h1, by rw [← HS.out]; exact h2⟩))]⟩
              go_upto_region 8 with (fail)
              go_quiet (fail)
              go_wp2_with fail
              go_roundg (N - (k + 1))
              case measure => omega
              case rel => exact ⟨k + 1, A3, n3, l3, by omega, by go_num, rfl, ⟨by have := HL3.out; omega⟩, ⟨by rw [HSK.out]; exact ⟨zs', (HQ.out.below (pw_below_drewN (Below.refl _ _) _))⟩⟩, ⟨by rw [HSK.out]; exact LetsP.below HLE.out (pw_below_drewN (Below.refl _ _) _)⟩, ⟨HCH.out.trans (Ch.of_below (pw_below_drewN (Below.refl _ _) _) F) (fun _ _ h => h)⟩⟩
            · have h2' := decide_eq_false h2
              have HSKN : Aside0 (¬ skipW c m k = true) := ⟨fun hh => by rcases (skip_iff c m k).1 hh with hh | hh; (rw [← HS.out, HWF.out] at hh; cases hh); exact h2 (by rw [HS.out]; exact hh.2)⟩
              have HSK : Aside0 (wakeUp c m (k + 1) = ({ (wakeUp c m k).1 with sp := (wakeUp c m k).1.sp.set k (wakeSp c m.now s) }, (wakeUp c m k).2 ++ [runL c (k + s.asked) k (min (s.tr + 1) c.tries)])) := ⟨by show (if _ then _ else _) = _; rw [if_neg HSKN.out, HS.out]⟩
              obtain ⟨T, hT⟩ : ∃ T, (if c.tries < s.tr + 1 then c.tries else s.tr + 1) = T := ⟨_, rfl⟩
              have HMIN : Aside0 (min (s.tr + 1) c.tries = T) := ⟨by rw [← hT]; split <;> omega⟩
              go_upto_region 8 with (fail)
              go_quiet (fail)
              go_upto_region 9 with (fail)
              go_region
              all_goals
                obtain ⟨wq, hwq⟩ : ∃ wq, wq = wr.drewN (nq + 1) := ⟨_, rfl⟩
                have hbq : HeldN wr wq := by rw [hwq]; exact pw_below_drewN (Below.refl wr.heap.size wr) _
                rw [← hwq]
                obtain ⟨w9, hw9⟩ : ∃ w9, w9 = wq.setCell ⟨gS, k * 6 + 1, none⟩ (.int .i64 (T)) := ⟨_, rfl⟩
                rw [← hw9]
                have hc9 : Ch wq w9 (fun i => i = gS) := by rw [hw9]; exact (Ch.refl wq (fun i => i = gS)).setCell _ _ rfl
                obtain ⟨z9, q9⟩ := (HQ.out.below hbq).put1 k HKC.out 1 (by omega) (.int .i64 (T)) { s with tr := T } (fun cv => by rw [HGET.out]; rfl) HWF.out
                rw [← hw9] at q9
                have hkl : k < (wakeUp c m k).1.sp.length := by rw [HSL.out, HNS.out]; exact hlt
                obtain ⟨cv, hz, g0, g1, g2, g3, g4, g5⟩ := q9.split k HKC.out
                have hgs : ({ (wakeUp c m k).1 with sp := (wakeUp c m k).1.sp.set k { s with tr := T } } : MaS).sp.getD k zeroS = { s with tr := T } := getD_set_self _ _ hkl _
                rw [hgs] at g0 g1
                have hFb : ∀ i, F i → i < w.heap.size := HP.out.flt
                have HLE9 : Aside0 (LetsP w9 w.heap.size (.slice A3 l3 n3) (wakeUp c m k).2) := ⟨Own.ch flat_LR (LetsP.below HLE.out hbq) hc9 (fun i hi e => by have := Own.base_ HLE.out i hi; have := hFb gS HP.out.fS; omega)⟩
                have HC9 : Aside0 (Ch w w9 F) := ⟨(HCH.out.trans (Ch.of_below (S := F) hbq) (fun _ _ h => h)).trans hc9 (fun i _ e => by rw [e]; exact HP.out.fS)⟩
                have HQ9 := Aside0.mk q9
                have HGS9 := Aside0.mk hgs
                have HZ9 := Aside0.mk (q9.frS (k * 6))
                have hh0 : HeldN w9 w9 := Below.refl _ _
                have hhd : ∀ w', HeldN w9 w' → HeldN w9 w'.drew := fun w' h => h.then_ (below_drew w')
                have HK0 : Aside0 (∀ w', HeldN w9 w' → w'.cell? ⟨gS, k * 6, none⟩ = some (.int .i64 s.asked) ∧ w'.cell? ⟨gS, k * 6 + 1, none⟩ = some (.int .i64 (T))) := ⟨fun w' hw => ⟨(Ch.of_below hw (fun _ => False)).cell g0 (fun h => h), (Ch.of_below hw (fun _ => False)).cell g1 (fun h => h)⟩⟩
                have HRUN : Aside0 (∀ w', HeldN w9 w' → Calls Try.prog 51 #[.pointer (some ⟨gM, 0, none⟩), .int .i64 ((k : Int) + s.asked), .int .i64 k, .int .i64 (T)] w' fun e w'' => e = .returned (.agg #[.int .i64 0, .int .i64 (turnN true c.workers ((k : Int) + s.asked)), .int .i64 1, .int .i64 k, .int .i64 (T), .int .i64 0, .int .i64 0, .int .i64 0, .int .i64 0, .int .i64 0, .slice none 0 0, .slice none 0 0]) ∧ HeldN w9 w'') := ⟨fun w' hw => (mRun (HQ9.out.below hw) ((k : Int) + s.asked) k (T)).mono (fun e w'' hh => ⟨hh.1, hw.then_ hh.2⟩)⟩
                have HAPP : Aside0 (∀ w', HeldN w9 w' → ∀ ty, Runs Try.prog (Builtin.append_ #[39, 39] ty #[.slice A3 l3 n3, .slice (some ⟨w'.heap.size, 0, none⟩) 1 1]) (w'.alloc (.cells #[.int .i64 0, .int .i64 (turnN true c.workers ((k : Int) + s.asked)), .int .i64 1, .int .i64 k, .int .i64 (T), .int .i64 0, .int .i64 0, .int .i64 0, .int .i64 0, .int .i64 0, .slice none 0 0, .slice none 0 0] 51)) fun v w10 => ∃ A8 n8, v = .slice A8 (l3 + 1) n8 ∧ (w10.cell? ⟨gS, k * 6, none⟩ = some (.int .i64 s.asked) ∧ w10.cell? ⟨gS, k * 6 + 1, none⟩ = some (.int .i64 (T))) ∧ Aside0 (LetsP w10 w.heap.size (.slice A8 (l3 + 1) n8) (wakeUp c m (k + 1)).2 ∧ (∃ zs2, MaP w10 gM gS gT F c h zs2 C ok { (wakeUp c m k).1 with sp := (wakeUp c m k).1.sp.set k { s with tr := T } }) ∧ Ch w w10 F)) := ⟨fun w' hw ty => by
                  obtain ⟨A', n', e', hl3', _⟩ := Own.reads HLE9.out
                  injection e' with _ hl3 _
                  have hlt : (wakeUp c m k).2.length = l3 := by rw [List.length_map] at hl3; omega
                  have hcw : Ch w w' F := HC9.out.trans (Ch.of_below (S := F) hw) (fun _ _ h => h)
                  refine (lets_app w' w.heap.size (.slice A3 l3 n3) _ (runL c ((k : Int) + s.asked) k (T)) (HLE9.out.below hw) hcw.size (by rw [hlt]; have := HL3.out; omega) _ (by rfl) ty).mono ?_
                  rintro v w10 ⟨hO9, hc9⟩
                  obtain ⟨A8, n8, rfl, _⟩ := hO9.reads
                  rw [List.length_append, hlt, List.length_singleton] at hO9 ⊢
                  have hown : ∀ i, (Value.slice A3 l3 n3).ownBlock = some i → w.heap.size ≤ i := fun i hi => Own.base_ HLE.out i hi
                  have hS := HK0.out w' hw
                  have hgS := HP.out.flt _ HP.out.fS
                  refine ⟨A8, n8, rfl, ⟨hc9.cell hS.1 (fun e => ?_), hc9.cell hS.2 (fun e => ?_)⟩, ⟨?_, ?_, ?_⟩⟩
                  · have := hown gS e; omega
                  · have := hown gS e; omega
                  · rw [HSK.out, HMIN.out]; exact hO9
                  · exact ⟨_, (HQ9.out.below hw).ch hc9 (fun i hi e => by have := HP.out.flt i hi; have := hown i e; omega)⟩
                  · exact hcw.trans hc9 (fun i hlt e => by have := hown i e; omega)⟩
                clear hwq hw9 hc9 q9 hz g0 g1 g2 g3 g4 g5 hgs hkl hbq hd1 hd2 hdn hdm f0 f1 f2 hcn hct hcm z1
                go_upto_region 10 with (fail)
                go_region_held_law (fun w' => w'.cell? ⟨gS, k * 6, none⟩ = some (.int .i64 s.asked) ∧ w'.cell? ⟨gS, k * 6 + 1, none⟩ = some (.int .i64 (T))) (first | assumption | exact HK0.out _ (by first | assumption | exact hhd _ hh0 | exact hhd _ (by assumption) | exact HeldN.then_ (hhd _ hh0) ((Below.refl _ _).alloc (Nat.le_refl _) _) | exact HeldN.then_ (by assumption) ((Below.refl _ _).alloc (Nat.le_refl _) _)))
                  (first
                    | (go_at_call 51; (try rw [HWR.out]); ((with_reducible refine (HRUN.out _ (by first | assumption | exact hhd _ hh0)).mono ?_); rintro e w5 ⟨rfl, hH5⟩))
                    | (refine step_app_run rfl (.tmp 66) (.tmp 80) 39 rfl (.slice A3 l3 n3) (.slice (some ⟨w5.heap.size, 0, none⟩) 1 1) (by simp [Act.eval, Act.put]) (by simp [Act.eval, Act.put]) (HAPP.out w5 hH5) ?_; rintro _ w10 ⟨A8, n8, rfl, hS9, hALL⟩))
                all_goals
                  obtain ⟨hL10, ⟨z10, q10⟩, hC10⟩ := hALL.out
                  have d0 := hS9.1
                  have y0 := q10.frS (k * 6)
                  have y2 := q10.frS (k * 6 + 2)
                  have dn : w10.cell? ⟨gM, 12, none⟩ = some (.int .i64 m.now) := by have := q10.c_now; rw [HSN.out] at this; exact this
                  obtain ⟨_, hz, g0, g1, g2, g3, g4, g5⟩ := q10.split k HKC.out
                  have hgs := HGS9.out
                  rw [hgs] at g2
                  have hne : ¬ gM = gS := HP.out.neS
                  have hne2 : ¬ gS = gM := fun e => hne e.symm
                  have HFIN : Aside0 (∀ w12, w12 = ((w10.setCell ⟨gS, k * 6, none⟩ (.int .i64 (s.asked + 1))).setCell ⟨gS, k * 6 + 2, none⟩ (.int .i64 m.now)) → (∃ z12, MaP w12 gM gS gT F c h z12 C ok (wakeUp c m (k + 1)).1) ∧ LetsP w12 w.heap.size (.slice A8 (l3 + 1) n8) (wakeUp c m (k + 1)).2 ∧ Ch w w12 F) := ⟨fun w12 hw12 => by
                    obtain ⟨z12, q12⟩ := q10.put02 k HKC.out { s with tr := T } HGS9.out HWF.out (s.asked + 1) m.now
                    rw [← hw12] at q12
                    have hcS : Ch w10 w12 (fun i => i = gS) := by rw [hw12]; exact ((Ch.refl w10 (fun i => i = gS)).setCell _ _ rfl).setCell _ _ rfl
                    refine ⟨⟨z12, ?_⟩, Own.ch flat_LR hL10 hcS (fun i hi e => by have := Own.base_ hL10 i hi; have := HP.out.flt gS HP.out.fS; omega), hC10.trans hcS (fun i _ e => by rw [e]; exact HP.out.fS)⟩
                    have e : (((wakeUp c m k).1.sp.set k { s with tr := T }).set k { s with tr := T, asked := s.asked + 1, at_ := m.now }) = (wakeUp c m k).1.sp.set k (wakeSp c m.now s) := by rw [List.set_set]; unfold wakeSp; rw [HMIN.out]
                    rw [HSK.out]
                    show MaP w12 gM gS gT F c h z12 C ok { (wakeUp c m k).1 with sp := (wakeUp c m k).1.sp.set k (wakeSp c m.now s) }
                    rw [← e]
                    exact q12⟩
                  clear hALL hL10 hC10 q10 hS9 HAPP HK0 HRUN hh0 hhd hz hgs g0 g1 g3 g4 g5
                  go_wp2_with fail
                  go_roundg (N - (k + 1))
                  case measure => omega
                  case rel => exact ⟨k + 1, A8, n8, l3 + 1, by omega, by go_num, rfl, ⟨by have := HL3.out; omega⟩, ⟨(HFIN.out _ rfl).1⟩, ⟨(HFIN.out _ rfl).2.1⟩, ⟨(HFIN.out _ rfl).2.2⟩⟩
          · have h1' := decide_eq_false h1
            have HSKN : Aside0 (¬ skipW c m k = true) := ⟨fun hh => by rcases (skip_iff c m k).1 hh with hh | hh; (rw [← HS.out, HWF.out] at hh; cases hh); exact h1 (by rw [HS.out]; exact hh.1)⟩
            have HSK : Aside0 (wakeUp c m (k + 1) = ({ (wakeUp c m k).1 with sp := (wakeUp c m k).1.sp.set k (wakeSp c m.now s) }, (wakeUp c m k).2 ++ [runL c (k + s.asked) k (min (s.tr + 1) c.tries)])) := ⟨by show (if _ then _ else _) = _; rw [if_neg HSKN.out, HS.out]⟩
            obtain ⟨T, hT⟩ : ∃ T, s.tr + 1 = T := ⟨_, rfl⟩
            have HMIN : Aside0 (min (s.tr + 1) c.tries = T) := ⟨by omega⟩
            go_upto_region 8 with (fail)
            go_quiet (fail)
            go_upto_region 9 with (fail)
            go_region
            all_goals
              obtain ⟨wq, hwq⟩ : ∃ wq, wq = wr.drewN (nq + 1) := ⟨_, rfl⟩
              have hbq : HeldN wr wq := by rw [hwq]; exact pw_below_drewN (Below.refl wr.heap.size wr) _
              rw [← hwq]
              obtain ⟨w9, hw9⟩ : ∃ w9, w9 = wq.setCell ⟨gS, k * 6 + 1, none⟩ (.int .i64 (T)) := ⟨_, rfl⟩
              rw [← hw9]
              have hc9 : Ch wq w9 (fun i => i = gS) := by rw [hw9]; exact (Ch.refl wq (fun i => i = gS)).setCell _ _ rfl
              obtain ⟨z9, q9⟩ := (HQ.out.below hbq).put1 k HKC.out 1 (by omega) (.int .i64 (T)) { s with tr := T } (fun cv => by rw [HGET.out]; rfl) HWF.out
              rw [← hw9] at q9
              have hkl : k < (wakeUp c m k).1.sp.length := by rw [HSL.out, HNS.out]; exact hlt
              obtain ⟨cv, hz, g0, g1, g2, g3, g4, g5⟩ := q9.split k HKC.out
              have hgs : ({ (wakeUp c m k).1 with sp := (wakeUp c m k).1.sp.set k { s with tr := T } } : MaS).sp.getD k zeroS = { s with tr := T } := getD_set_self _ _ hkl _
              rw [hgs] at g0 g1
              have hFb : ∀ i, F i → i < w.heap.size := HP.out.flt
              have HLE9 : Aside0 (LetsP w9 w.heap.size (.slice A3 l3 n3) (wakeUp c m k).2) := ⟨Own.ch flat_LR (LetsP.below HLE.out hbq) hc9 (fun i hi e => by have := Own.base_ HLE.out i hi; have := hFb gS HP.out.fS; omega)⟩
              have HC9 : Aside0 (Ch w w9 F) := ⟨(HCH.out.trans (Ch.of_below (S := F) hbq) (fun _ _ h => h)).trans hc9 (fun i _ e => by rw [e]; exact HP.out.fS)⟩
              have HQ9 := Aside0.mk q9
              have HGS9 := Aside0.mk hgs
              have HZ9 := Aside0.mk (q9.frS (k * 6))
              have hh0 : HeldN w9 w9 := Below.refl _ _
              have hhd : ∀ w', HeldN w9 w' → HeldN w9 w'.drew := fun w' h => h.then_ (below_drew w')
              have HK0 : Aside0 (∀ w', HeldN w9 w' → w'.cell? ⟨gS, k * 6, none⟩ = some (.int .i64 s.asked) ∧ w'.cell? ⟨gS, k * 6 + 1, none⟩ = some (.int .i64 (T))) := ⟨fun w' hw => ⟨(Ch.of_below hw (fun _ => False)).cell g0 (fun h => h), (Ch.of_below hw (fun _ => False)).cell g1 (fun h => h)⟩⟩
              have HRUN : Aside0 (∀ w', HeldN w9 w' → Calls Try.prog 51 #[.pointer (some ⟨gM, 0, none⟩), .int .i64 ((k : Int) + s.asked), .int .i64 k, .int .i64 (T)] w' fun e w'' => e = .returned (.agg #[.int .i64 0, .int .i64 (turnN true c.workers ((k : Int) + s.asked)), .int .i64 1, .int .i64 k, .int .i64 (T), .int .i64 0, .int .i64 0, .int .i64 0, .int .i64 0, .int .i64 0, .slice none 0 0, .slice none 0 0]) ∧ HeldN w9 w'') := ⟨fun w' hw => (mRun (HQ9.out.below hw) ((k : Int) + s.asked) k (T)).mono (fun e w'' hh => ⟨hh.1, hw.then_ hh.2⟩)⟩
              have HAPP : Aside0 (∀ w', HeldN w9 w' → ∀ ty, Runs Try.prog (Builtin.append_ #[39, 39] ty #[.slice A3 l3 n3, .slice (some ⟨w'.heap.size, 0, none⟩) 1 1]) (w'.alloc (.cells #[.int .i64 0, .int .i64 (turnN true c.workers ((k : Int) + s.asked)), .int .i64 1, .int .i64 k, .int .i64 (T), .int .i64 0, .int .i64 0, .int .i64 0, .int .i64 0, .int .i64 0, .slice none 0 0, .slice none 0 0] 51)) fun v w10 => ∃ A8 n8, v = .slice A8 (l3 + 1) n8 ∧ (w10.cell? ⟨gS, k * 6, none⟩ = some (.int .i64 s.asked) ∧ w10.cell? ⟨gS, k * 6 + 1, none⟩ = some (.int .i64 (T))) ∧ Aside0 (LetsP w10 w.heap.size (.slice A8 (l3 + 1) n8) (wakeUp c m (k + 1)).2 ∧ (∃ zs2, MaP w10 gM gS gT F c h zs2 C ok { (wakeUp c m k).1 with sp := (wakeUp c m k).1.sp.set k { s with tr := T } }) ∧ Ch w w10 F)) := ⟨fun w' hw ty => by
                obtain ⟨A', n', e', hl3', _⟩ := Own.reads HLE9.out
                injection e' with _ hl3 _
                have hlt : (wakeUp c m k).2.length = l3 := by rw [List.length_map] at hl3; omega
                have hcw : Ch w w' F := HC9.out.trans (Ch.of_below (S := F) hw) (fun _ _ h => h)
                refine (lets_app w' w.heap.size (.slice A3 l3 n3) _ (runL c ((k : Int) + s.asked) k (T)) (HLE9.out.below hw) hcw.size (by rw [hlt]; have := HL3.out; omega) _ (by rfl) ty).mono ?_
                rintro v w10 ⟨hO9, hc9⟩
                obtain ⟨A8, n8, rfl, _⟩ := hO9.reads
                rw [List.length_append, hlt, List.length_singleton] at hO9 ⊢
                have hown : ∀ i, (Value.slice A3 l3 n3).ownBlock = some i → w.heap.size ≤ i := fun i hi => Own.base_ HLE.out i hi
                have hS := HK0.out w' hw
                have hgS := HP.out.flt _ HP.out.fS
                refine ⟨A8, n8, rfl, ⟨hc9.cell hS.1 (fun e => ?_), hc9.cell hS.2 (fun e => ?_)⟩, ⟨?_, ?_, ?_⟩⟩
                · have := hown gS e; omega
                · have := hown gS e; omega
                · rw [HSK.out, HMIN.out]; exact hO9
                · exact ⟨_, (HQ9.out.below hw).ch hc9 (fun i hi e => by have := HP.out.flt i hi; have := hown i e; omega)⟩
                · exact hcw.trans hc9 (fun i hlt e => by have := hown i e; omega)⟩
              clear hwq hw9 hc9 q9 hz g0 g1 g2 g3 g4 g5 hgs hkl hbq hd1 hd2 hdn hdm f0 f1 f2 hcn hct hcm z1
              go_upto_region 10 with (fail)
              go_region_held_law (fun w' => w'.cell? ⟨gS, k * 6, none⟩ = some (.int .i64 s.asked) ∧ w'.cell? ⟨gS, k * 6 + 1, none⟩ = some (.int .i64 (T))) (first | assumption | exact HK0.out _ (by first | assumption | exact hhd _ hh0 | exact hhd _ (by assumption) | exact HeldN.then_ (hhd _ hh0) ((Below.refl _ _).alloc (Nat.le_refl _) _) | exact HeldN.then_ (by assumption) ((Below.refl _ _).alloc (Nat.le_refl _) _)))
                (first
                  | (go_at_call 51; (try rw [HWR.out]); ((with_reducible refine (HRUN.out _ (by first | assumption | exact hhd _ hh0)).mono ?_); rintro e w5 ⟨rfl, hH5⟩))
                  | (refine step_app_run rfl (.tmp 66) (.tmp 80) 39 rfl (.slice A3 l3 n3) (.slice (some ⟨w5.heap.size, 0, none⟩) 1 1) (by simp [Act.eval, Act.put]) (by simp [Act.eval, Act.put]) (HAPP.out w5 hH5) ?_; rintro _ w10 ⟨A8, n8, rfl, hS9, hALL⟩))
              all_goals
                obtain ⟨hL10, ⟨z10, q10⟩, hC10⟩ := hALL.out
                have d0 := hS9.1
                have y0 := q10.frS (k * 6)
                have y2 := q10.frS (k * 6 + 2)
                have dn : w10.cell? ⟨gM, 12, none⟩ = some (.int .i64 m.now) := by have := q10.c_now; rw [HSN.out] at this; exact this
                obtain ⟨_, hz, g0, g1, g2, g3, g4, g5⟩ := q10.split k HKC.out
                have hgs := HGS9.out
                rw [hgs] at g2
                have hne : ¬ gM = gS := HP.out.neS
                have hne2 : ¬ gS = gM := fun e => hne e.symm
                have HFIN : Aside0 (∀ w12, w12 = ((w10.setCell ⟨gS, k * 6, none⟩ (.int .i64 (s.asked + 1))).setCell ⟨gS, k * 6 + 2, none⟩ (.int .i64 m.now)) → (∃ z12, MaP w12 gM gS gT F c h z12 C ok (wakeUp c m (k + 1)).1) ∧ LetsP w12 w.heap.size (.slice A8 (l3 + 1) n8) (wakeUp c m (k + 1)).2 ∧ Ch w w12 F) := ⟨fun w12 hw12 => by
                  obtain ⟨z12, q12⟩ := q10.put02 k HKC.out { s with tr := T } HGS9.out HWF.out (s.asked + 1) m.now
                  rw [← hw12] at q12
                  have hcS : Ch w10 w12 (fun i => i = gS) := by rw [hw12]; exact ((Ch.refl w10 (fun i => i = gS)).setCell _ _ rfl).setCell _ _ rfl
                  refine ⟨⟨z12, ?_⟩, Own.ch flat_LR hL10 hcS (fun i hi e => by have := Own.base_ hL10 i hi; have := HP.out.flt gS HP.out.fS; omega), hC10.trans hcS (fun i _ e => by rw [e]; exact HP.out.fS)⟩
                  have e : (((wakeUp c m k).1.sp.set k { s with tr := T }).set k { s with tr := T, asked := s.asked + 1, at_ := m.now }) = (wakeUp c m k).1.sp.set k (wakeSp c m.now s) := by rw [List.set_set]; unfold wakeSp; rw [HMIN.out]
                  rw [HSK.out]
                  show MaP w12 gM gS gT F c h z12 C ok { (wakeUp c m k).1 with sp := (wakeUp c m k).1.sp.set k (wakeSp c m.now s) }
                  rw [← e]
                  exact q12⟩
                clear hALL hL10 hC10 q10 hS9 HAPP HK0 HRUN hh0 hhd hz hgs g0 g1 g3 g4 g5
                go_wp2_with fail
                go_roundg (N - (k + 1))
                case measure => omega
                case rel => exact ⟨k + 1, A8, n8, l3 + 1, by omega, by go_num, rfl, ⟨by have := HL3.out; omega⟩, ⟨(HFIN.out _ rfl).1⟩, ⟨(HFIN.out _ rfl).2.1⟩, ⟨(HFIN.out _ rfl).2.2⟩⟩
      · obtain rfl : k = N := by omega
        go_wp2_with fail
        go_ret
        exact ⟨_, rfl, by rw [HRW.out]; exact ⟨⟨_, _, _, _, _, _, HQ.out⟩, HLE.out, HCH.out⟩⟩
  · have HRW : Aside0 (R = (m, [])) := ⟨by rw [HRR.out]; unfold wakeF; rw [if_neg hst]⟩
    have hst' : (m.st != 0) = true := by simpa using hst
    go_enter Try.func18, Try.ntmps18
    go_wp2_with fail
    go_ret
    exact ⟨_, rfl, by rw [HRW.out]; exact ⟨⟨_, _, _, _, _, _, HP.out⟩, LetsP.nil _ _, Ch.refl _ _⟩⟩
end
end Go.Proofs.Ytbnhhlahbhjogaa.K
