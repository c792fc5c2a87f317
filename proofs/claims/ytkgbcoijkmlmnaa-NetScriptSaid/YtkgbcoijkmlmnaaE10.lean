/- Letters are sent. WRITTEN BY wip/gen_send.py. -/
import Derived.Test.YtkgbcoijkmlmnaaE9
import Derived.Deep.RegionLaw
set_option linter.unusedVariables false
set_option linter.unusedSimpArgs false
set_option maxRecDepth 100000
namespace Go.Proofs.Ytkgbcoijkmlmnaa.K
open Go.RowKit Go.Proofs.YtkgbcoijkmlmnaaW.PrintWords Go.Proofs.YtkgbcoijkmlmnaaW.PrintLast Go.Proofs.YtkgbcoijkmlmnaaW.PrintMore Go.Proofs.Ytkgbcoijkmlmnaa.U Go.Proofs.Ytkgbcoijkmlmnaa.T

section
variable {B1 B2 : Option Addr} {d1 d2 : Nat} {w w' w5 : World} {gN gT : Nat} {rv v5 : Value} {ok F : Nat → Prop} {ls : List LetD} {lost : Int} {x : LetD}
theorem NetP.grow {wX : World} (h : NetP w gN gT rv ok F ls lost) (hb : Below w.heap.size w wX) (hr : Kd.R kLet 36 w5 0 (fun k => ok k ∨ w.heap.size ≤ k) v5 (ls ++ [x])) (hg : wX.grownBy w5 rv.ownBlock) (hl : ls.length < 128) :
    (w5.cell? ⟨gN, 0, none⟩ = some rv ∧ w5.frozen? ⟨gN, 0, none⟩ = false) ∧ ∀ w9, w9 = w5.setCell ⟨gN, 0, none⟩ v5 → ∃ F', NetR w9 gN F' (ls ++ [x]) lost ∧ (∀ k, F' k → F k ∨ w.heap.size ≤ k) ∧ Ch w w9 F := by
  have hc : Ch w w5 (fun k => rv.ownBlock = some k) := (Ch.of_below hb _).trans (Ch.of_grown hg (fun k hk => hk)) (fun _ _ h => h)
  have hrv : ∀ k, rv.ownBlock = some k → F k ∧ k ≠ gN ∧ k ≠ gT := fun k hk => h.okF k (h.row.1 k hk)
  have hb5 := hc.blk h.blk (fun e => (hrv gN e).2.1 rfl)
  refine ⟨⟨cell_of_blk hb5, frozen_of_blk hb5⟩, fun w9 hw9 => ?_⟩
  obtain ⟨F', h1, h2, h3⟩ := h.put (w1 := w5) (rv' := v5) (ls' := ls ++ [x]) hc hr (fun k hk => hk) (by rw [List.length_append]; simp; omega)
  rw [← hw9] at h1 h3
  exact ⟨F', ⟨gT, v5, _, h1⟩, h2, h3⟩
theorem NetP.tallied {n : Int} (h : NetP w gN gT rv ok F ls lost) (hc : Ch w w' (fun k => k = gT)) (ht : TallyR 105 w' 0 gT [n, 0, 0, 0, 0, 0, 0, 0]) : NetP w' gN gT rv ok F ls n where
  blk := hc.blk h.blk h.ne
  row := Kd.R_step h.row (fun k hk hlt => hc.block k hlt (h.okF k hk).2.2)
  tal := ht
  okF := h.okF
  fN := h.fN
  fT := h.fT
  ne := h.ne
  flt k hk := Nat.lt_of_lt_of_le (h.flt k hk) hc.size
  len := h.len
/-- What an append of a letter that shares nothing needs. -/
theorem NetP.room (h : NetP w gN gT rv ok F ls lost) {wo wX : World} (hb : Below w.heap.size w wo) (hX : wX = wo.alloc (.cells (rawL x (.slice B1 x.m.set.length d1) (.slice B2 x.m.prs.length d2)).toArray 36))
    (hs : Own kI 3 wo w.heap.size (.slice B1 x.m.set.length d1) x.m.set) (hp : Own kPair 114 wo w.heap.size (.slice B2 x.m.prs.length d2) x.m.prs) :
    Below w.heap.size w wX ∧ Kd.R kLet 36 wX 0 (fun k => ok k ∨ w.heap.size ≤ k) rv ls ∧ ReadsRow (kLet.M wX 0 (fun k => w.heap.size ≤ k)) kLet.sz wX (some ⟨wo.heap.size, 0, none⟩) 1 [x] ∧ (∀ k, w.heap.size ≤ k → (ok k ∨ w.heap.size ≤ k) ∧ some k ≠ rv.ownBlock) := by
  have hbo : Below wo.heap.size wo wX := by rw [hX]; exact (Below.refl _ _).alloc (Nat.le_refl _) _
  have hbX := below_then hb hb.size hbo
  refine ⟨hbX, Kd.R_mono (Kd.R_below h.row hbX) (fun k hk => .inl hk), ⟨rfl, by show 1 ≤ 9223372036854775807; omega, fun _ => ⟨_, rfl, fun j y hj => ?_⟩⟩, fun k hk => ⟨.inr hk, fun e => ?_⟩⟩
  · have hj0 : j = 0 ∧ x = y := by
      cases j with
      | zero => simpa using hj
      | succ j => simp at hj
    obtain ⟨rfl, rfl⟩ := hj0
    have e1 : ∀ (e : TypeId) {α : Type} {d : Kd α} {v : Value} {xs : List α}, Kd.R d e wo w.heap.size (fun _ => True) v xs → Kd.R d e wX 0 (fun k => w.heap.size ≤ k) v xs := fun e α d v xs h => Kd.R_below (Kd.R_lower (Kd.R_mono (Kd.R_bound h) (fun k hk => hk.2.1)) (Nat.zero_le _)) hbo
    refine ⟨_, ?_, kLet_mkM (e1 _ hs) (e1 _ hp), fun i u hu => ?_⟩
    · rfl
    · rw [hX, show 0 * kLet.sz + i = i from by rw [Nat.zero_mul, Nat.zero_add]]
      exact cells_new wo _ _ i u hu
  · have := Kd.R_lt h.row k e.symm
    omega
end
theorem lostN_rng (ls ys : List LetD) : 0 ≤ lostN ls ys ∧ lostN ls ys ≤ ys.length := by unfold lostN; rw [List.length_take]; omega
set_option maxHeartbeats 6400000 in
theorem netSend (w : World) (gN : Nat) (F : Nat → Prop) (ls : List LetD) (lost : Int) (h : NetR w gN F ls lost) (A : Option Addr) (c : Nat) (xs : List LetD) (hC : ∀ w', Ch w w' F → Kd.C kLet w' A xs.length xs) (hl : xs.length ≤ 100000) (hx : ∀ x ∈ xs, x.m.set.length ≤ 1000000 ∧ x.m.prs.length ≤ 1000000) (h0 : 0 ≤ lost ∧ lost ≤ 1000000) :
    Calls Try.prog 13 #[.pointer (some ⟨gN, 0, none⟩), .slice A xs.length c] w fun e w' => e = .returned (.int .i64 (lostN ls xs)) ∧ (∃ F', NetR w' gN F' (sendL ls xs) (lost + lostN ls xs) ∧ ∀ k, F' k → F k ∨ w.heap.size ≤ k) ∧ Ch w w' F := by
  have hls : ls.length ≤ 128 := by obtain ⟨_, _, _, h⟩ := h; exact h.len
  have hN := h
  obtain ⟨gT, rv, ok, h⟩ := h
  have hc1 : w.cell? ⟨gN, 1, none⟩ = some (.pointer (some ⟨gT, 0, none⟩)) := cell_of_blk h.blk
  have HG : Aside0 (Calls Try.prog 41 #[.pointer (some ⟨gT, 0, none⟩), .int .i64 0] w fun e w' => e = .returned (.int .i64 lost) ∧ w' = w) := ⟨tGet 105 0 gT 0 (by omega) _ w h.tal⟩
  have HN := Aside0.mk hN
  have HC := Aside0.mk hC
  have HX := Aside0.mk hx
  have HLS := Aside0.mk hls
  have hu := Try.underlying36
  have hum := Try.underlying34
  clear h hN hC hx hls
  go_enter Try.func13, Try.ntmps13
  go_wp2_with fail
  refine HG.out.mono ?_
  rintro e w1 ⟨rfl, rfl⟩
  go_wp2_with fail
  clear hc1 HG
  go_loopg [17] xs.length (fun kq v17 w' => ∃ k : Nat, k + kq = xs.length ∧ v17 = .int .i64 k ∧ Aside0 ((∃ F', NetR w' gN F' (sendL ls (xs.take k)) (lost + lostN ls (xs.take k)) ∧ ∀ k, F' k → F k ∨ w1.heap.size ≤ k) ∧ Ch w1 w' F))
  case atStart => exact ⟨0, by omega, rfl, ⟨⟨F, by
    have e1 : sendL ls (xs.take 0) = ls := by simp [sendL]
    have e2 : lostN ls (xs.take 0) = 0 := by simp [lostN]
    rw [e1, e2, Int.add_zero]
    exact HN.out, fun k hk => .inl hk⟩, Ch.refl _ _⟩⟩
  case round =>
    obtain ⟨k, hk, rfl, HI⟩ := hrel
    obtain ⟨F1, hR1, hF1⟩ := HI.out.1
    obtain ⟨gT1, rv, ok, hP⟩ := hR1
    have hLst : 0 ≤ lostN ls (xs.take k) ∧ lostN ls (xs.take k) ≤ 100000 := by
      have h1 := lostN_rng ls (xs.take k)
      have h2 : (xs.take k).length ≤ xs.length := by rw [List.length_take]; omega
      omega
    obtain ⟨L, hL⟩ : ∃ L, L = sendL ls (xs.take k) := ⟨_, rfl⟩
    obtain ⟨N, hN⟩ : ∃ N, N = lost + lostN ls (xs.take k) := ⟨_, rfl⟩
    rw [← hL, ← hN] at hP
    have hP1 := hP.below (below_drew wr)
    have hcd1 : wr.cell? ⟨gN, 1, none⟩ = some (.pointer (some ⟨gT1, 0, none⟩)) := cell_of_blk hP.blk
    have HP := Aside0.mk hP
    have HF1 := Aside0.mk hF1
    have HL := Aside0.mk hL
    have HNN := Aside0.mk hN
    have HLST := Aside0.mk hLst
    by_cases hlt : k < xs.length
    case' neg =>
      have hltI : ¬ (k : Int) < xs.length := by omega
      have hkl : xs.take k = xs := List.take_of_length_le (by omega)
      have HG2 : Aside0 (Calls Try.prog 41 #[.pointer (some ⟨gT1, 0, none⟩), .int .i64 0] wr fun e w' => e = .returned (.int .i64 N) ∧ w' = wr) := ⟨tGet 105 0 gT1 0 (by omega) _ wr hP.tal⟩
      have HKL := Aside0.mk hkl
      have hw : IntKind.i64.wrap (N - lost) = N - lost := IntWalk.i64_in _ (by omega)
      clear hP hP1 hL hN hLst hF1 hkl
      go_wp2_with fail
      refine HG2.out.mono ?_
      rintro e w2 ⟨rfl, rfl⟩
      go_wp2_with fail
      go_ret
      have e1 : N - lost = lostN ls xs := by rw [HNN.out, HKL.out]; omega
      refine ⟨by rw [← e1]; rfl, ⟨F1, ⟨gT1, rv, ok, ?_⟩, HF1.out⟩, HI.out.2⟩
      have hp := HP.out
      rw [HL.out, HNN.out, HKL.out] at hp
      exact hp
    have hltI : (k : Int) < xs.length := by omega
    have hk0 : (0 : Int) ≤ (k : Int) := by omega
    obtain ⟨ad, A1, A2, c1, c2, rfl, hm0, hc0⟩ := at_let (HC.out wr HI.out.2) k hlt
    obtain ⟨x, hx⟩ : ∃ x, x = xs[k]'hlt := ⟨_, rfl⟩
    rw [← hx] at hm0 hc0
    have hxl := HX.out x (by rw [hx]; exact List.getElem_mem _)
    have ht0 : xs.take (k + 1) = xs.take k ++ [x] := by rw [List.take_succ_eq_append_getElem hlt, hx]
    have HT0 := Aside0.mk ht0
    obtain ⟨fr, dst, m⟩ := x
    have hlx : LetAt wr (ad.add (k * 12)) fr dst m (.slice A1 m.set.length c1) (.slice A2 m.prs.length c2) := LetAt.of hc0
    have hm0 : MsgC wr m A1 A2 c1 c2 := hm0
    have hxl : m.set.length ≤ 1000000 ∧ m.prs.length ≤ 1000000 := hxl
    obtain ⟨P0, hP0⟩ : ∃ P, ad.add (k * 12) = P := ⟨_, rfl⟩
    rw [hP0] at hlx
    obtain ⟨g0, o0, z0⟩ := P0
    obtain ⟨ls1, hls1⟩ : ∃ n, n = m.set.length := ⟨_, rfl⟩
    obtain ⟨lp1, hlp1⟩ : ∃ n, n = m.prs.length := ⟨_, rfl⟩
    rw [← hls1, ← hlp1] at hlx
    obtain ⟨A9, c9, hrv, _, _⟩ := Kd.R_reads hP.row
    subst hrv
    have hcd0 : wr.cell? ⟨gN, 0, none⟩ = some (.slice A9 L.length c9) := cell_of_blk hP.blk
    -- the letter's own variable
    obtain ⟨wL, hwL⟩ : ∃ w', w' = wr.alloc (.cells #[.int .i64 fr, .int .i64 dst, .int .i64 m.k, .int .i64 m.s, .int .i64 m.a, .int .i64 m.p, .int .i64 m.q, .int .i64 m.n, .int .i64 m.e, .int .i64 m.r, .slice A1 ls1 c1, .slice A2 lp1 c2] 36) := ⟨_, rfl⟩
    obtain ⟨gL, hgL⟩ : ∃ g, g = wr.heap.size := ⟨_, rfl⟩
    have hbL : Below wr.heap.size wr wL := by rw [hwL]; exact (Below.refl _ _).alloc (Nat.le_refl _) _
    have hiL : wL.heap[gL]? = some (.cells ([.int .i64 fr, .int .i64 dst, .int .i64 m.k, .int .i64 m.s, .int .i64 m.a, .int .i64 m.p, .int .i64 m.q, .int .i64 m.n, .int .i64 m.e, .int .i64 m.r, .slice A1 ls1 c1, .slice A2 lp1 c2] : List Value).toArray 36 (0, 0)) := by rw [hwL, hgL]; exact alloc_at wr _
    have HPL := Aside0.mk (hP.below hbL)
    have HBL := Aside0.mk hbL
    have HIL := Aside0.mk hiL
    have HWL := Aside0.mk (And.intro hwL hgL)
    have HML := Aside0.mk (hm0.below hbL)
    have hcL0 : wL.cell? ⟨gN, 0, none⟩ = some (.slice A9 L.length c9) := cell_of_blk HPL.out.blk
    have hcL1 : wL.cell? ⟨gN, 1, none⟩ = some (.pointer (some ⟨gT1, 0, none⟩)) := cell_of_blk HPL.out.blk
    have hLl : L.length ≤ 128 := hP.len
    have HLS1 := Aside0.mk (And.intro hls1 hlp1)
    have HXL := Aside0.mk hxl
    obtain ⟨f0, f1, f2, f3, f4, f5, f6, f7, f8, f9, fa, fb⟩ := hlx
    clear hP hP1 hL hN hLst hF1 hm0 hc0 hx ht0 hxl hwL hgL hbL hiL hls1 hlp1
    by_cases hfull : (128 : Int) ≤ L.length
    · have HFULL := Aside0.mk (sendL_full ls (xs.take k) ⟨fr, dst, m⟩ HLS.out (by rw [← HL.out]; omega))
      have HADD : Aside0 (Calls Try.prog 42 #[.pointer (some ⟨gT1, 0, none⟩), .int .i64 0, .int .i64 1] wL fun e w' => e = .returned (.int .i64 (N + 1)) ∧ TallyR 105 w' 0 gT1 [N + 1, 0, 0, 0, 0, 0, 0, 0] ∧ Ch wL w' (fun k => k = gT1)) := ⟨tAdd 0 gT1 0 (by omega) [N, 0, 0, 0, 0, 0, 0, 0] 1 (N + 1) wL HPL.out.tal (by
        show N + 1 = min (N + 1) 1099511627776
        have := HNN.out
        have := HLST.out
        omega)⟩
      go_upto_region 7 with (fail)
      rw [← HWL.out.1, ← HWL.out.2]
      clear f0 f1 f2 f3 f4 f5 f6 f7 f8 f9 fa fb
      go_wp2_with fail
      refine HADD.out.mono ?_
      rintro e w2 ⟨rfl, hT2, hc2⟩
      have hT2' := hT2
      have hP2 := HPL.out.tallied hc2 hT2'
      have HP2 := Aside0.mk hP2
      have HC2 : Aside0 (Ch w1 w2 F) := ⟨(HI.out.2.trans (Ch.of_below HBL.out (fun _ => False)) (fun _ _ h => h.elim)).trans hc2 (fun j hj e => by
        rcases HF1.out j (by rw [e]; exact HPL.out.fT) with h | h
        · exact h
        · omega)⟩
      clear hT2 hT2' hP2 hc2
      go_wp2_with fail
      go_roundg (xs.length - (k + 1))
      case measure => omega
      case rel => exact ⟨k + 1, by omega, by go_num, ⟨⟨F1, ⟨gT1, _, ok, by
        rw [HT0.out, HFULL.out.1, HFULL.out.2, ← HL.out, show lost + (lostN ls (xs.take k) + 1) = N + 1 from by rw [HNN.out]; omega]
        exact HP2.out⟩, HF1.out⟩, HC2.out⟩⟩
    · have HROOM := Aside0.mk (sendL_room ls (xs.take k) ⟨fr, dst, m⟩ HLS.out (by rw [← HL.out]; omega))
      have hOWN : Aside0 (∀ w', HeldN wL w' → Calls Try.prog 43 #[.agg #[.int .i64 fr, .int .i64 dst, .int .i64 m.k, .int .i64 m.s, .int .i64 m.a, .int .i64 m.p, .int .i64 m.q, .int .i64 m.n, .int .i64 m.e, .int .i64 m.r, .slice A1 ls1 c1, .slice A2 lp1 c2]] w' fun e w'' => ∃ B1 d1 B2 d2, e = .returned (.agg #[.int .i64 fr, .int .i64 dst, .int .i64 m.k, .int .i64 m.s, .int .i64 m.a, .int .i64 m.p, .int .i64 m.q, .int .i64 m.n, .int .i64 m.e, .int .i64 m.r, .slice B1 ls1 d1, .slice B2 lp1 d2]) ∧ Own kI 3 w'' wL.heap.size (.slice B1 m.set.length d1) m.set ∧ Own kPair 114 w'' wL.heap.size (.slice B2 m.prs.length d2) m.prs ∧ HeldN wL w'') := ⟨fun w' hw => by
        have hO := own_ ⟨fr, dst, m⟩ A1 A2 c1 c2 w' (HML.out.below hw) HXL.out.1 HXL.out.2
        rw [HLS1.out.1, HLS1.out.2]
        refine hO.mono ?_
        rintro e w'' ⟨sv, pv, rfl, h1, h2, hb⟩
        obtain ⟨B1, d1, rfl, _, _⟩ := h1.reads
        obtain ⟨B2, d2, rfl, _, _⟩ := h2.reads
        exact ⟨B1, d1, B2, d2, rfl, h1.lower hw.size, h2.lower hw.size, hw.then_ hb⟩⟩
      go_upto_region 7 with (fail)
      rw [← HWL.out.1, ← HWL.out.2]
      clear f0 f1 f2 f3 f4 f5 f6 f7 f8 f9 fa fb
      go_upto_region 9 with (fail)
      have hh0 : HeldN wL wL.drew := below_drew wL
      have hcd := HPL.out.below (below_drew wL)
      have hd0 : wL.drew.cell? ⟨gN, 0, none⟩ = some (.slice A9 L.length c9) := cell_of_blk hcd.blk
      have hdL := (hh0.block gL (blk_lt' HIL.out)).trans HIL.out
      have l0 : wL.drew.cell? ⟨gL, 0, none⟩ = some (.int .i64 fr) := cell_of_blk hdL
      have l1 : wL.drew.cell? ⟨gL, 1, none⟩ = some (.int .i64 dst) := cell_of_blk hdL
      have l2 : wL.drew.cell? ⟨gL, 2, none⟩ = some (.int .i64 m.k) := cell_of_blk hdL
      have l3 : wL.drew.cell? ⟨gL, 3, none⟩ = some (.int .i64 m.s) := cell_of_blk hdL
      have l4 : wL.drew.cell? ⟨gL, 4, none⟩ = some (.int .i64 m.a) := cell_of_blk hdL
      have l5 : wL.drew.cell? ⟨gL, 5, none⟩ = some (.int .i64 m.p) := cell_of_blk hdL
      have l6 : wL.drew.cell? ⟨gL, 6, none⟩ = some (.int .i64 m.q) := cell_of_blk hdL
      have l7 : wL.drew.cell? ⟨gL, 7, none⟩ = some (.int .i64 m.n) := cell_of_blk hdL
      have l8 : wL.drew.cell? ⟨gL, 8, none⟩ = some (.int .i64 m.e) := cell_of_blk hdL
      have l9 : wL.drew.cell? ⟨gL, 9, none⟩ = some (.int .i64 m.r) := cell_of_blk hdL
      have l10 : wL.drew.cell? ⟨gL, 10, none⟩ = some (.slice A1 ls1 c1) := cell_of_blk hdL
      have l11 : wL.drew.cell? ⟨gL, 11, none⟩ = some (.slice A2 lp1 c2) := cell_of_blk hdL
      clear hcd hdL hcL0 hcL1 hcd0 hcd1
      go_region_law (first
        | (rw [if_pos (by rfl)]; go_simp; go_at_call 43; refine (hOWN.out _ hh0).mono ?_; rintro e wo ⟨B1, d1, B2, d2, rfl, hs, hp, hH⟩; obtain ⟨hbX, hrowX, hRX, hokX⟩ := HPL.out.room (x := ⟨fr, dst, m⟩) (wX := wo.alloc (.cells #[.int .i64 fr, .int .i64 dst, .int .i64 m.k, .int .i64 m.s, .int .i64 m.a, .int .i64 m.p, .int .i64 m.q, .int .i64 m.n, .int .i64 m.e, .int .i64 m.r, .slice B1 ls1 d1, .slice B2 lp1 d2] 36)) hH (by rw [HLS1.out.1, HLS1.out.2]; rfl) hs hp; have hco : wo.cell? ⟨gN, 0, none⟩ = some (.slice A9 L.length c9) := cell_of_blk (HPL.out.below hH).blk; have hcX : (wo.alloc (.cells #[.int .i64 fr, .int .i64 dst, .int .i64 m.k, .int .i64 m.s, .int .i64 m.a, .int .i64 m.p, .int .i64 m.q, .int .i64 m.n, .int .i64 m.e, .int .i64 m.r, .slice B1 ls1 d1, .slice B2 lp1 d2] 36)).cell? ⟨gN, 0, none⟩ = some (.slice A9 L.length c9) := cell_of_blk (HPL.out.below hbX).blk)
        | (refine Kd.R_append_rows_step kLet (w0 := wo.alloc (.cells #[.int .i64 fr, .int .i64 dst, .int .i64 m.k, .int .i64 m.s, .int .i64 m.a, .int .i64 m.p, .int .i64 m.q, .int .i64 m.n, .int .i64 m.e, .int .i64 m.r, .slice B1 ls1 d1, .slice B2 lp1 d2] 36)) 0 rfl _ _ 28 36 _ 128 rfl Try.underlying28 info_let rfl (by decide) (by decide) (.slice A9 L.length c9) L [⟨fr, dst, m⟩] (some ⟨wo.heap.size, 0, none⟩) 1 1 (fun k => ok k ∨ wL.heap.size ≤ k) (fun k => wL.heap.size ≤ k) rfl rfl hrowX hRX (fun _ _ h => h) hokX (fun k hk => .inr (Nat.le_trans hbX.size hk)) (Below.refl _ _) (Nat.zero_le _) (by omega) ?_; intro v5 w5 h5 hb5 hg5 hat5; obtain ⟨A5, c5, rfl, _, _⟩ := Kd.R_reads h5; obtain ⟨⟨hq5, hz5⟩, H9⟩ := HPL.out.grow hbX h5 hg5 (by omega); rw [show (L ++ [(⟨fr, dst, m⟩ : LetD)]).length = L.length + 1 from by simp] at H9 ⊢; have H9A := Aside0.mk H9; clear h5 hb5 hg5 hat5 H9))
      all_goals
        obtain ⟨w9, hw9⟩ : ∃ w9, w9 = w5.setCell ⟨gN, 0, none⟩ (.slice A5 (L.length + 1) c5) := ⟨_, rfl⟩
        rw [← hw9]
        obtain ⟨F', hR9, hF9, hC9⟩ := H9A.out w9 hw9
        have HC2 : Aside0 (Ch w1 w9 F) := ⟨(HI.out.2.trans (Ch.of_below HBL.out (fun _ => False)) (fun _ _ h => h.elim)).trans hC9 (fun j hj e => by
          rcases HF1.out j e with h | h
          · exact h
          · omega)⟩
        have HR9 : Aside0 (NetR w9 gN F' (sendL ls (xs.take (k + 1))) (lost + lostN ls (xs.take (k + 1)))) := ⟨by
          rw [HT0.out, HROOM.out.1, HROOM.out.2, ← HL.out, ← HNN.out]
          exact hR9⟩
        have HF9 : Aside0 (∀ j, F' j → F j ∨ w1.heap.size ≤ j) := ⟨fun j hj => by
          have hs1 := HI.out.2.size
          have hs2 := HBL.out.size
          rcases hF9 j hj with h | h
          · exact HF1.out j h
          · exact .inr (by omega)⟩
        clear hw9 hR9 hF9 hC9 hq5 hz5
        go_wp2_with fail
        go_roundg (xs.length - (k + 1))
        case measure => omega
        case rel => exact ⟨k + 1, by omega, by go_num, ⟨⟨F', HR9.out, HF9.out⟩, HC2.out⟩⟩
end Go.Proofs.Ytkgbcoijkmlmnaa.K
