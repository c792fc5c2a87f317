/- Letters are written over. WRITTEN BY wip/gen_over.py. -/
import Derived.Test.YtkgbcoijkmlmnaaE20
import Derived.Test.YtkgbcoijkmlmnaaKI
set_option linter.unusedVariables false
set_option linter.unusedSimpArgs false
set_option maxRecDepth 100000
namespace Go.Proofs.Ytkgbcoijkmlmnaa.K
open Go.RowKit Go.Proofs.YtkgbcoijkmlmnaaW.PrintWords Go.Proofs.YtkgbcoijkmlmnaaW.PrintLast Go.Proofs.YtkgbcoijkmlmnaaW.PrintMore Go.Proofs.Ytkgbcoijkmlmnaa.U Go.Proofs.Ytkgbcoijkmlmnaa.T

theorem own_blkN {α : Type} {d : Kd α} {e : TypeId} {w : World} {base : Nat} {v : Value} {xs : List α} (h : Own d e w base v xs) {k : Nat} (hk : v.ownBlock = some k) : ∃ cs, w.heap[k]? = some (.cells cs e (0, 0)) := by
  obtain ⟨_, inner, ⟨hl, ho⟩, hr⟩ := h
  rcases ho with ⟨rfl, _⟩ | ⟨g, cap, cur, rfl, h1, h2, _⟩
  · cases hk
  · injection hk with hk
    subst hk
    exact ⟨_, h2⟩
set_option maxHeartbeats 1600000 in
theorem overMessage (m : MsgD) (sv pv : Value) (base : Nat) (w : World) (hs : Own kI 3 w base sv m.set) (hp : Own kPair 114 w base pv m.prs) (hb : base ≤ w.heap.size) (h1 : m.set.length ≤ 1000000) (h2 : m.prs.length ≤ 1000000) :
    Calls Try.prog 47 #[msgV m sv pv] w fun e w' => e = .returned (.tuple #[]) ∧ Ch w w' (fun k => sv.ownBlock = some k ∨ pv.ownBlock = some k) := by
  obtain ⟨A1, c1, rfl, _, _⟩ := hs.reads
  obtain ⟨A2, c2, rfl, _, _⟩ := hp.reads
  obtain ⟨g, hg⟩ : ∃ g, g = w.heap.size := ⟨_, rfl⟩
  obtain ⟨wA, hwA⟩ : ∃ wA, wA = w.alloc (.cells #[.int .i64 m.k, .int .i64 m.s, .int .i64 m.a, .int .i64 m.p, .int .i64 m.q, .int .i64 m.n, .int .i64 m.e, .int .i64 m.r, .slice A1 m.set.length c1, .slice A2 m.prs.length c2] 34) := ⟨_, rfl⟩
  have hbA : Below w.heap.size w wA := by rw [hwA]; exact (Below.refl _ _).alloc (Nat.le_refl _) _
  have hgA : wA.heap[g]? = some (.cells ([.int .i64 m.k, .int .i64 m.s, .int .i64 m.a, .int .i64 m.p, .int .i64 m.q, .int .i64 m.n, .int .i64 m.e, .int .i64 m.r, .slice A1 m.set.length c1, .slice A2 m.prs.length c2] : List Value).toArray 34 (0, 0)) := by rw [hwA, hg]; exact alloc_at w _
  have HI := Aside0.mk (overInts (.slice A1 m.set.length c1) m.set base wA (hs.below hbA) (Nat.le_trans hb hbA.size) (by omega))
  have hfar : ∀ k, (Value.slice A2 m.prs.length c2).ownBlock = some k → (Value.slice A1 m.set.length c1).ownBlock ≠ some k := fun k hk e => by
    obtain ⟨cs, h3⟩ := own_blkN hp hk
    obtain ⟨cs', h4⟩ := own_blkN hs e
    rw [h3] at h4
    injection h4 with h4
    injection h4 with _ h4
    exact absurd h4 (by decide)
  have HP := Aside0.mk (show ∀ w1, wA.grownBy w1 (Value.slice A1 m.set.length c1).ownBlock → Calls Try.prog 54 #[.slice A2 m.prs.length c2] w1 fun e w' => e = .returned (.tuple #[]) ∧ w1.grownBy w' (Value.slice A2 m.prs.length c2).ownBlock from fun w1 h3 => overPairs (.slice A2 m.prs.length c2) m.prs base w1 ((hp.below hbA).other flat_pair h3 hfar) (Nat.le_trans (Nat.le_trans hb hbA.size) h3.size) (by omega))
  have hc8 : wA.cell? ⟨g, 8, none⟩ = some (.slice A1 m.set.length c1) := cell_of_blk hgA
  have hlt := hs.lt
  have HST : Aside0 (∀ w1, wA.grownBy w1 (Value.slice A1 m.set.length c1).ownBlock → w1.cell? ⟨g, 9, none⟩ = some (.slice A2 m.prs.length c2)) := ⟨fun w1 h3 => cell_of_blk ((h3.block g (blk_lt' hgA) (fun e => by have := hlt g e.symm; omega)).trans hgA)⟩
  have HA := Aside0.mk (And.intro hwA hg)
  have HB := Aside0.mk hbA
  clear hs hp hwA hbA hgA hfar hlt hg
  unfold msgV
  go_enter Try.func47, Try.ntmps47
  go_upto_region 1 with (fail)
  rw [← HA.out.1, ← HA.out.2]
  go_wp2_with fail
  refine HI.out.mono ?_
  rintro e w1 ⟨rfl, hg1⟩
  have hc9 := HST.out w1 hg1
  have HG1 := Aside0.mk hg1
  have HP1 := Aside0.mk (HP.out w1 hg1)
  clear hg1 hc8
  go_wp2_with fail
  refine HP1.out.mono ?_
  rintro e w2 ⟨rfl, hg2⟩
  have HG2 := Aside0.mk hg2
  clear hg2
  go_wp2_with fail
  go_end0
  refine ⟨rfl, ((Ch.of_below HB.out _).trans (Ch.of_grown (S := fun k => (Value.slice A1 m.set.length c1).ownBlock = some k) HG1.out (fun k hk => hk)) (fun k _ hk => .inl hk)).trans (Ch.of_grown (S := fun k => (Value.slice A2 m.prs.length c2).ownBlock = some k) HG2.out (fun k hk => hk)) (fun k _ hk => .inr hk)⟩
def zeroZ : LetZ := ⟨zeroLet, .slice none 0 0, .slice none 0 0⟩
def overZ : LetZ := ⟨⟨-9, 0, nilMsg⟩, .slice none 0 0, .slice none 0 0⟩
set_option maxHeartbeats 3200000 in
theorem overLetters (v : Value) (zs : List LetZ) (ow : Nat → Option Nat) (base : Nat) (w : World) (hL : ListP w base v zs ow) (hb : base ≤ w.heap.size) (hl : zs.length ≤ 100000) (hsm : ∀ z ∈ zs, z.x.m.set.length ≤ 1000000 ∧ z.x.m.prs.length ≤ 1000000) :
    Calls Try.prog 22 #[v] w fun e w' => e = .returned (.tuple #[]) ∧ Ch w w' (base ≤ ·) := by
  have hu := Try.underlying36
  have hum := Try.underlying34
  obtain ⟨A, c, rfl, hc, hrd⟩ := hL.row.reads
  have HO := Aside0.mk hL
  clear hrd
  rcases Nat.eq_zero_or_pos zs.length with h0 | h0
  · obtain rfl := List.eq_nil_of_length_eq_zero h0
    clear hL hl h0
    go_enter Try.func22, Try.ntmps22
    go_wp2_with fail
    go_loopg [2] 1 (fun kq v2 w' => v2 = .int .i64 0 ∧ w' = w)
    case atStart => exact ⟨rfl, rfl⟩
    case round =>
      obtain ⟨rfl, rfl⟩ := hrel
      go_wp2_with fail
      go_end0
      exact ⟨rfl, Ch.refl _ _⟩
  · obtain ⟨g, cap, he, hbg, hlt, _⟩ := Kd.R_form hL.row h0
    simp only [Value.slice.injEq] at he
    obtain ⟨rfl, _, rfl⟩ := he
    have HSM := Aside0.mk hsm
    have HBG := Aside0.mk (And.intro hb hbg)
    clear hL hsm hb hbg hlt
    go_enter Try.func22, Try.ntmps22
    go_wp2_with fail
    go_loopg [2] zs.length (fun kq v2 w' => ∃ (k : Nat) (ys : List LetZ), k + kq = zs.length ∧ v2 = .int .i64 k ∧ Aside0 (ys.length = zs.length) ∧ Aside0 (Own kLR 36 w' base (.slice (some ⟨g, 0, none⟩) zs.length c) ys) ∧ Aside0 (∀ j, k ≤ j → ys[j]? = zs[j]?) ∧
      Aside0 (∀ j (h : j < zs.length), k ≤ j → Kd.R kI 3 w' base (fun i => ow i = some j) (zs[j]).sv (zs[j]).x.m.set ∧ Kd.R kPair 114 w' base (fun i => ow i = some j) (zs[j]).pv (zs[j]).x.m.prs) ∧ Aside0 (Ch w w' (base ≤ ·)))
    case atStart => exact ⟨0, zs, by omega, rfl, ⟨rfl⟩, ⟨HO.out.row⟩, ⟨fun _ _ => rfl⟩, ⟨fun j h _ => ⟨HO.out.sets j h, HO.out.prs j h⟩⟩, ⟨Ch.refl _ _⟩⟩
    case round =>
      obtain ⟨k, ys, hk, rfl, HYS, HO1, HT, HR, HG⟩ := hrel
      by_cases hlt : k < zs.length
      · obtain ⟨z, hz⟩ : ∃ z, z = zs[k] := ⟨_, rfl⟩
        obtain ⟨hs, hp⟩ := HR.out k hlt (Nat.le_refl _)
        obtain ⟨hsl, hpl⟩ := HSM.out _ (List.getElem_mem hlt)
        rw [← hz] at hs hp hsl hpl
        have hyk : ys[k]? = some z := by rw [HT.out k (Nat.le_refl _), hz]; exact List.getElem?_eq_getElem hlt
        obtain ⟨⟨fr, dst, m⟩, sv, pv⟩ := z
        replace hs : Kd.R kI 3 wr base (fun i => ow i = some k) sv m.set := hs
        replace hp : Kd.R kPair 114 wr base (fun i => ow i = some k) pv m.prs := hp
        replace hsl : m.set.length ≤ 1000000 := hsl
        replace hpl : m.prs.length ≤ 1000000 := hpl
        obtain ⟨A1, c1, rfl, _, _⟩ := Kd.R_reads hs
        obtain ⟨A2, c2, rfl, _, _⟩ := Kd.R_reads hp
        obtain ⟨ls1, hls1⟩ : ∃ n, n = m.set.length := ⟨_, rfl⟩
        obtain ⟨lp1, hlp1⟩ : ∃ n, n = m.prs.length := ⟨_, rfl⟩
        have hsz : base ≤ wr.heap.size := Nat.le_trans HBG.out.1 HG.out.size
        have HOV := Aside0.mk (overMessage m _ _ base wr (Kd.R_mono hs (fun _ _ => trivial)) (Kd.R_mono hp (fun _ _ => trivial)) hsz hsl hpl)
        have hown : ∀ i, ((Value.slice A1 m.set.length c1).ownBlock = some i ∨ (Value.slice A2 m.prs.length c2).ownBlock = some i) → ow i = some k := fun i hi => by
          rcases hi with hi | hi
          · exact hs.1 i hi
          · exact hp.1 i hi
        have hel : ∀ (w1 : World) (us : List LetZ), us.length = zs.length → us[k]? = some ⟨⟨fr, dst, m⟩, .slice A1 m.set.length c1, .slice A2 m.prs.length c2⟩ → Own kLR 36 w1 base (.slice (some ⟨g, 0, none⟩) zs.length c) us → LetAt w1 ⟨g, k * 12, none⟩ fr dst m (.slice A1 m.set.length c1) (.slice A2 m.prs.length c2) ∧ (∀ i, w1.frozen? ⟨g, k * 12 + i, none⟩ = false) ∧ Own kLR 36 (w1.setCells g (k * 12) (rawZ overZ)) base (.slice (some ⟨g, 0, none⟩) zs.length c) (us.set k overZ) ∧ w1.grownBy (w1.setCells g (k * 12) (rawZ overZ)) (some g) := fun w1 us hus huk hO => by
          obtain ⟨ce, hcl, hM, hcc, hfr⟩ := Kd.R_elem hO zeroZ (k : Int) (by omega) (by omega)
          have e : us.getD (k : Int).toNat zeroZ = ⟨⟨fr, dst, m⟩, .slice A1 m.set.length c1, .slice A2 m.prs.length c2⟩ := by rw [Int.toNat_natCast, List.getD_eq_getElem?_getD, huk]; rfl
          rw [e] at hM
          obtain ⟨hce, h1, h2⟩ := hM
          obtain ⟨hput, hgp⟩ := Kd.R_seg hO (k : Int) (by omega) (by omega) (seg := rawZ overZ) (j := 0) hcl hcc (by decide) (x' := overZ) (okp := fun _ => False) (by rw [hce]; exact ⟨rfl, rfl, rfl⟩) (fun _ h => h.elim)
          rw [hce] at hcc
          rw [Int.toNat_natCast] at hcc hfr hput hgp
          exact ⟨⟨hcc 0 _ rfl, hcc 1 _ rfl, hcc 2 _ rfl, hcc 3 _ rfl, hcc 4 _ rfl, hcc 5 _ rfl, hcc 6 _ rfl, hcc 7 _ rfl, hcc 8 _ rfl, hcc 9 _ rfl, hcc 10 _ rfl, hcc 11 _ rfl⟩, hfr, hput, hgp⟩
        have HEL := Aside0.mk hel
        obtain ⟨hat, _⟩ := hel wr ys HYS.out hyk HO1.out
        have HNX : Aside0 (∀ w1, Ch wr w1 (fun i => (Value.slice A1 m.set.length c1).ownBlock = some i ∨ (Value.slice A2 m.prs.length c2).ownBlock = some i) → Own kLR 36 w1 base (.slice (some ⟨g, 0, none⟩) zs.length c) ys ∧ (∀ w2, w1.grownBy w2 (some g) → Aside0 (∀ j (h : j < zs.length), k + 1 ≤ j → Kd.R kI 3 w2 base (fun i => ow i = some j) (zs[j]).sv (zs[j]).x.m.set ∧ Kd.R kPair 114 w2 base (fun i => ow i = some j) (zs[j]).pv (zs[j]).x.m.prs) ∧ Aside0 (Ch w w2 (base ≤ ·)))) := ⟨fun w1 hc1 => by
          have hc1' := hc1.mono (fun i hi => hown i hi)
          have hog : ow g = none := HO.out.out g rfl
          refine ⟨HO1.out.ch flat_LR hc1' (fun i hi e => by injection hi with hi; rw [← hi, hog] at e; cases e), fun w2 hg2 => ⟨⟨fun j hj hkj => ?_⟩, ⟨?_⟩⟩⟩
          · obtain ⟨q1, q2⟩ := HR.out j hj (by omega)
            have hst : ∀ i, ow i = some j → i < wr.heap.size → w2.heap[i]? = wr.heap[i]? := fun i hi hlt' => (hg2.block i (Nat.lt_of_lt_of_le hlt' hc1.size) (fun e => by injection e with e; rw [e, hog] at hi; cases hi)).trans (hc1'.block i hlt' (fun e => by rw [e] at hi; injection hi with hi; omega))
            exact ⟨Kd.R_step q1 hst, Kd.R_step q2 hst⟩
          · refine (HG.out.trans (hc1.mono (T := (base ≤ ·)) (fun i hi => ?_)) (fun i _ h => h)).trans (Ch.of_grown (S := (base ≤ ·)) hg2 (fun i hi => by injection hi with hi; rw [← hi]; exact HBG.out.2)) (fun i _ h => h)
            rcases hi with hi | hi
            · exact (Kd.R_bound (Kd.R_mono hs (fun _ _ => trivial) : Own kI 3 wr base _ m.set)).1 i hi |>.2.1
            · exact (Kd.R_bound (Kd.R_mono hp (fun _ _ => trivial) : Own kPair 114 wr base _ m.prs)).1 i hi |>.2.1⟩
        have HYK := Aside0.mk hyk
        have HAT := Aside0.mk hat
        have hin : (k : Int) < zs.length := by omega
        have hi0 : (0 : Int) ≤ (k : Int) := by omega
        have hP : (⟨g, 0, none⟩ : Addr).add (k * 12) = ⟨g, k * 12, none⟩ := by rw [add_plain]
        obtain ⟨f0, f1, f2, f3, f4, f5, f6, f7, f8, f9, fa, fb⟩ := hat
        clear hs hp hz hyk hel hown hsl hpl hls1 hlp1 hsz
        unfold msgV at HOV
        go_wp2_with fail
        refine HOV.out.mono ?_
        rintro e w1 ⟨rfl, hc1⟩
        obtain ⟨hO1, hN1⟩ := HNX.out w1 hc1
        have HN1 := Aside0.mk hN1
        obtain ⟨⟨p0, p1, p2, p3, p4, p5, p6, p7, p8, p9, pa, pb⟩, hfz, hput, hgp⟩ := HEL.out w1 ys HYS.out HYK.out hO1
        have HPUT := Aside0.mk hput
        have HGP := Aside0.mk hgp
        have z0 : w1.frozen? ⟨g, k * 12, none⟩ = false := hfz 0
        have z1 : w1.frozen? ⟨g, k * 12 + 1, none⟩ = false := hfz 1
        have z2 : w1.frozen? ⟨g, k * 12 + 2, none⟩ = false := hfz 2
        have z3 : w1.frozen? ⟨g, k * 12 + 3, none⟩ = false := hfz 3
        have z4 : w1.frozen? ⟨g, k * 12 + 4, none⟩ = false := hfz 4
        have z5 : w1.frozen? ⟨g, k * 12 + 5, none⟩ = false := hfz 5
        have z6 : w1.frozen? ⟨g, k * 12 + 6, none⟩ = false := hfz 6
        have z7 : w1.frozen? ⟨g, k * 12 + 7, none⟩ = false := hfz 7
        have z8 : w1.frozen? ⟨g, k * 12 + 8, none⟩ = false := hfz 8
        have z9 : w1.frozen? ⟨g, k * 12 + 9, none⟩ = false := hfz 9
        have za : w1.frozen? ⟨g, k * 12 + 10, none⟩ = false := hfz 10
        have zb : w1.frozen? ⟨g, k * 12 + 11, none⟩ = false := hfz 11
        clear f0 f1 f2 f3 f4 f5 f6 f7 f8 f9 fa fb hc1 hO1 hN1 hput hgp hfz
        go_wp2_with fail
        obtain ⟨w2, hw2⟩ : ∃ w2, w2 = w1.setCells g (k * 12) (rawZ overZ) := ⟨_, rfl⟩
        have hput := HPUT.out
        have hgp := HGP.out
        rw [← hw2] at hput hgp
        go_roundg (zs.length - (k + 1))
        case measure => omega
        case rel => exact ⟨k + 1, ys.set k overZ, by omega, by go_num, ⟨by rw [List.length_set]; exact HYS.out⟩, HPUT, ⟨fun j hj => by rw [List.getElem?_set_ne (by omega)]; exact HT.out j (by omega)⟩, (HN1.out _ HGP.out).1, (HN1.out _ HGP.out).2⟩
      · go_wp2_with fail
        go_end0
        exact ⟨rfl, HG.out⟩
end Go.Proofs.Ytkgbcoijkmlmnaa.K
