/- Records are written over. WRITTEN BY wip/gen_refread.py. -/
import Derived.Test.YtkgbcoijkmlmnaaR11
import Derived.Test.YtkgbcoijkmlmnaaKI
set_option linter.unusedVariables false
set_option linter.unusedSimpArgs false
set_option maxRecDepth 100000
namespace Go.Proofs.Ytkgbcoijkmlmnaa.K
open Go.RowKit Go.Proofs.YtkgbcoijkmlmnaaW.PrintWords Go.Proofs.YtkgbcoijkmlmnaaW.PrintLast Go.Proofs.YtkgbcoijkmlmnaaW.PrintMore Go.Proofs.Ytkgbcoijkmlmnaa.U Go.Proofs.Ytkgbcoijkmlmnaa.T

theorem own_blkV {α : Type} {d : Kd α} {e : TypeId} {w : World} {base : Nat} {v : Value} {xs : List α} (h : Own d e w base v xs) {k : Nat} (hk : v.ownBlock = some k) : ∃ cs, w.heap[k]? = some (.cells cs e (0, 0)) := by
  obtain ⟨_, inner, ⟨hl, ho⟩, hr⟩ := h
  rcases ho with ⟨rfl, _⟩ | ⟨g, cap, cur, rfl, h1, h2, _⟩
  · cases hk
  · injection hk with hk
    subst hk
    exact ⟨_, h2⟩
def zeroRZ : RecZ := ⟨zeroRec, .slice none 0 0, .slice none 0 0⟩
def overRZ : RecZ := ⟨⟨-9, 0, 0, 0, 0, [], []⟩, .slice none 0 0, .slice none 0 0⟩
set_option maxHeartbeats 3200000 in
theorem overRecords (v : Value) (zs : List RecZ) (ow : Nat → Option Nat) (base : Nat) (w : World) (hL : RListP w base v zs ow) (hb : base ≤ w.heap.size) (hl : zs.length ≤ 1000000) (hsm : ∀ z ∈ zs, z.x.set.length ≤ 1000000 ∧ z.x.prs.length ≤ 1000000) :
    Calls Try.prog 31 #[v] w fun e w' => e = .returned (.tuple #[]) ∧ Ch w w' (base ≤ ·) := by
  have hu := Try.underlying64
  obtain ⟨A, c, rfl, hc, hrd⟩ := hL.row.reads
  have HO := Aside0.mk hL
  clear hrd
  rcases Nat.eq_zero_or_pos zs.length with h0 | h0
  · obtain rfl := List.eq_nil_of_length_eq_zero h0
    clear hL hl h0
    go_enter Try.func31, Try.ntmps31
    go_wp2_with fail
    go_loopg [2] 1 (fun kq v2 w' => v2 = .int .i64 0 ∧ w' = w)
    case atStart => exact ⟨rfl, rfl⟩
    case round =>
      obtain ⟨rfl, rfl⟩ := hrel
      go_wp2_with fail
      go_end0
      exact ⟨rfl, Ch.refl _ _⟩
  · obtain ⟨g, cap, he, hbg, hlt, _⟩ := Kd.R_form hL.row h0
    simp only [Value.slice.injEq] at he
    obtain ⟨rfl, _, rfl⟩ := he
    have HSM := Aside0.mk hsm
    have HBG := Aside0.mk (And.intro hb hbg)
    clear hL hsm hb hbg hlt
    go_enter Try.func31, Try.ntmps31
    go_wp2_with fail
    go_loopg [2] zs.length (fun kq v2 w' => ∃ (k : Nat) (ys : List RecZ), k + kq = zs.length ∧ v2 = .int .i64 k ∧ Aside0 (ys.length = zs.length) ∧ Aside0 (Own kRR 64 w' base (.slice (some ⟨g, 0, none⟩) zs.length c) ys) ∧ Aside0 (∀ j, k ≤ j → ys[j]? = zs[j]?) ∧
      Aside0 (∀ j (h : j < zs.length), k ≤ j → Kd.R kI 3 w' base (fun i => ow i = some j) (zs[j]).sv (zs[j]).x.set ∧ Kd.R kPair 114 w' base (fun i => ow i = some j) (zs[j]).pv (zs[j]).x.prs) ∧ Aside0 (Ch w w' (base ≤ ·)))
    case atStart => exact ⟨0, zs, by omega, rfl, ⟨rfl⟩, ⟨HO.out.row⟩, ⟨fun _ _ => rfl⟩, ⟨fun j h _ => ⟨HO.out.sets j h, HO.out.prs j h⟩⟩, ⟨Ch.refl _ _⟩⟩
    case round =>
      obtain ⟨k, ys, hk, rfl, HYS, HO1, HT, HR, HG⟩ := hrel
      by_cases hlt : k < zs.length
      · obtain ⟨z, hz⟩ : ∃ z, z = zs[k] := ⟨_, rfl⟩
        obtain ⟨hs, hp⟩ := HR.out k hlt (Nat.le_refl _)
        obtain ⟨hsl, hpl⟩ := HSM.out _ (List.getElem_mem hlt)
        rw [← hz] at hs hp hsl hpl
        have hyk : ys[k]? = some z := by rw [HT.out k (Nat.le_refl _), hz]; exact List.getElem?_eq_getElem hlt
        obtain ⟨⟨xk, xp, xs, xa, xr, st, ps⟩, sv, pv⟩ := z
        replace hs : Kd.R kI 3 wr base (fun i => ow i = some k) sv st := hs
        replace hp : Kd.R kPair 114 wr base (fun i => ow i = some k) pv ps := hp
        replace hsl : st.length ≤ 1000000 := hsl
        replace hpl : ps.length ≤ 1000000 := hpl
        obtain ⟨A1, c1, rfl, _, _⟩ := Kd.R_reads hs
        obtain ⟨A2, c2, rfl, _, _⟩ := Kd.R_reads hp
        have hsz : base ≤ wr.heap.size := Nat.le_trans HBG.out.1 HG.out.size
        have hsO : Own kI 3 wr base (.slice A1 st.length c1) st := Kd.R_mono hs (fun _ _ => trivial)
        have hpO : Own kPair 114 wr base (.slice A2 ps.length c2) ps := Kd.R_mono hp (fun _ _ => trivial)
        have hfar : ∀ k, (Value.slice A2 ps.length c2).ownBlock = some k → (Value.slice A1 st.length c1).ownBlock ≠ some k := fun k hk e => by
          obtain ⟨cs, h3⟩ := own_blkV hpO hk
          obtain ⟨cs', h4⟩ := own_blkV hsO e
          rw [h3] at h4
          injection h4 with h4
          injection h4 with _ h4
          exact absurd h4 (by decide)
        have HOV := Aside0.mk (overInts (.slice A1 st.length c1) st base wr hsO hsz (by omega))
        have HOP := Aside0.mk (show ∀ w1, wr.grownBy w1 (Value.slice A1 st.length c1).ownBlock → Calls Try.prog 54 #[.slice A2 ps.length c2] w1 fun e w' => e = .returned (.tuple #[]) ∧ w1.grownBy w' (Value.slice A2 ps.length c2).ownBlock from fun w1 h3 => overPairs (.slice A2 ps.length c2) ps base w1 (hpO.other flat_pair h3 hfar) (Nat.le_trans hsz h3.size) (by omega))
        have hown : ∀ i, ((Value.slice A1 st.length c1).ownBlock = some i ∨ (Value.slice A2 ps.length c2).ownBlock = some i) → ow i = some k := fun i hi => by
          rcases hi with hi | hi
          · exact hs.1 i hi
          · exact hp.1 i hi
        have hel : ∀ (w1 : World) (us : List RecZ), us.length = zs.length → us[k]? = some ⟨⟨xk, xp, xs, xa, xr, st, ps⟩, .slice A1 st.length c1, .slice A2 ps.length c2⟩ → Own kRR 64 w1 base (.slice (some ⟨g, 0, none⟩) zs.length c) us → (w1.cell? ⟨g, k * 7 + 5, none⟩ = some (.slice A1 st.length c1) ∧ w1.cell? ⟨g, k * 7 + 6, none⟩ = some (.slice A2 ps.length c2)) ∧ (∀ j, j < 7 → ∃ u, w1.cell? ⟨g, k * 7 + j, none⟩ = some u) ∧ (∀ i, w1.frozen? ⟨g, k * 7 + i, none⟩ = false) ∧ Own kRR 64 (w1.setCells g (k * 7) (rawRZ overRZ)) base (.slice (some ⟨g, 0, none⟩) zs.length c) (us.set k overRZ) ∧ w1.grownBy (w1.setCells g (k * 7) (rawRZ overRZ)) (some g) := fun w1 us hus huk hO => by
          obtain ⟨ce, hcl, hM, hcc, hfr⟩ := Kd.R_elem hO zeroRZ (k : Int) (by omega) (by omega)
          have e : us.getD (k : Int).toNat zeroRZ = ⟨⟨xk, xp, xs, xa, xr, st, ps⟩, .slice A1 st.length c1, .slice A2 ps.length c2⟩ := by rw [Int.toNat_natCast, List.getD_eq_getElem?_getD, huk]; rfl
          rw [e] at hM
          obtain ⟨hce, h1, h2⟩ := hM
          obtain ⟨hput, hgp⟩ := Kd.R_seg hO (k : Int) (by omega) (by omega) (seg := rawRZ overRZ) (j := 0) hcl hcc (by decide) (x' := overRZ) (okp := fun _ => False) (by rw [hce]; exact ⟨rfl, rfl, rfl⟩) (fun _ h => h.elim)
          rw [hce] at hcc
          rw [Int.toNat_natCast] at hcc hfr hput hgp
          exact ⟨⟨hcc 5 _ rfl, hcc 6 _ rfl⟩, fun j hj => ⟨_, hcc j _ (List.getElem?_eq_getElem (show j < (rawRZ ⟨⟨xk, xp, xs, xa, xr, st, ps⟩, .slice A1 st.length c1, .slice A2 ps.length c2⟩).length from hj))⟩, hfr, hput, hgp⟩
        have HEL := Aside0.mk hel
        obtain ⟨⟨hc5, hc6⟩, _⟩ := hel wr ys HYS.out hyk HO1.out
        have HNX : Aside0 (∀ w1, Ch wr w1 (fun i => (Value.slice A1 st.length c1).ownBlock = some i ∨ (Value.slice A2 ps.length c2).ownBlock = some i) → Own kRR 64 w1 base (.slice (some ⟨g, 0, none⟩) zs.length c) ys ∧ (∀ w2, w1.grownBy w2 (some g) → Aside0 (∀ j (h : j < zs.length), k + 1 ≤ j → Kd.R kI 3 w2 base (fun i => ow i = some j) (zs[j]).sv (zs[j]).x.set ∧ Kd.R kPair 114 w2 base (fun i => ow i = some j) (zs[j]).pv (zs[j]).x.prs) ∧ Aside0 (Ch w w2 (base ≤ ·)))) := ⟨fun w1 hc1 => by
          have hc1' := hc1.mono (fun i hi => hown i hi)
          have hog : ow g = none := HO.out.out g rfl
          refine ⟨HO1.out.ch flat_RR hc1' (fun i hi e => by injection hi with hi; rw [← hi, hog] at e; cases e), fun w2 hg2 => ⟨⟨fun j hj hkj => ?_⟩, ⟨?_⟩⟩⟩
          · obtain ⟨q1, q2⟩ := HR.out j hj (by omega)
            have hst : ∀ i, ow i = some j → i < wr.heap.size → w2.heap[i]? = wr.heap[i]? := fun i hi hlt' => (hg2.block i (Nat.lt_of_lt_of_le hlt' hc1.size) (fun e => by injection e with e; rw [e, hog] at hi; cases hi)).trans (hc1'.block i hlt' (fun e => by rw [e] at hi; injection hi with hi; omega))
            exact ⟨Kd.R_step q1 hst, Kd.R_step q2 hst⟩
          · refine (HG.out.trans (hc1.mono (T := (base ≤ ·)) (fun i hi => ?_)) (fun i _ h => h)).trans (Ch.of_grown (S := (base ≤ ·)) hg2 (fun i hi => by injection hi with hi; rw [← hi]; exact HBG.out.2)) (fun i _ h => h)
            rcases hi with hi | hi
            · exact (Kd.R_bound hsO).1 i hi |>.2.1
            · exact (Kd.R_bound hpO).1 i hi |>.2.1⟩
        have HYK := Aside0.mk hyk
        have hin : (k : Int) < zs.length := by omega
        have hi0 : (0 : Int) ≤ (k : Int) := by omega
        have hP : (⟨g, 0, none⟩ : Addr).add (k * 7) = ⟨g, k * 7, none⟩ := by rw [add_plain]
        clear hs hp hsO hpO hz hyk hel hown hsl hpl hsz hfar hc6
        go_wp2_with fail
        refine HOV.out.mono ?_
        rintro e w1 ⟨rfl, hg1⟩
        have HG1 := Aside0.mk hg1
        have hO1 := (HNX.out w1 ((Ch.of_grown (S := fun i => (Value.slice A1 st.length c1).ownBlock = some i) hg1 (fun i hi => hi)).mono (fun i hi => .inl hi))).1
        obtain ⟨⟨_, hd6⟩, _⟩ := HEL.out w1 ys HYS.out HYK.out hO1
        clear hg1 hO1 hc5
        go_wp2_with fail
        refine (HOP.out w1 HG1.out).mono ?_
        rintro e w2 ⟨rfl, hg2⟩
        have hc12 : Ch wr w2 (fun i => (Value.slice A1 st.length c1).ownBlock = some i ∨ (Value.slice A2 ps.length c2).ownBlock = some i) := (Ch.of_grown (S := fun i => (Value.slice A1 st.length c1).ownBlock = some i ∨ (Value.slice A2 ps.length c2).ownBlock = some i) HG1.out (fun i hi => .inl hi)).trans (Ch.of_grown (S := fun i => (Value.slice A1 st.length c1).ownBlock = some i ∨ (Value.slice A2 ps.length c2).ownBlock = some i) hg2 (fun i hi => .inr hi)) (fun _ _ e => e)
        obtain ⟨hO2, hN2⟩ := HNX.out w2 hc12
        have HN1 := Aside0.mk hN2
        obtain ⟨_, hany, hfz, hput, hgp⟩ := HEL.out w2 ys HYS.out HYK.out hO2
        have HPUT := Aside0.mk hput
        have HGP := Aside0.mk hgp
        obtain ⟨v0, p0⟩ := hany 0 (by decide)
        obtain ⟨v1, p1⟩ := hany 1 (by decide)
        obtain ⟨v2, p2⟩ := hany 2 (by decide)
        obtain ⟨v3, p3⟩ := hany 3 (by decide)
        obtain ⟨v4, p4⟩ := hany 4 (by decide)
        obtain ⟨v5, p5⟩ := hany 5 (by decide)
        obtain ⟨v6, p6⟩ := hany 6 (by decide)
        have p0 : w2.cell? ⟨g, k * 7, none⟩ = some v0 := p0
        have z0 : w2.frozen? ⟨g, k * 7, none⟩ = false := hfz 0
        have z1 : w2.frozen? ⟨g, k * 7 + 1, none⟩ = false := hfz 1
        have z2 : w2.frozen? ⟨g, k * 7 + 2, none⟩ = false := hfz 2
        have z3 : w2.frozen? ⟨g, k * 7 + 3, none⟩ = false := hfz 3
        have z4 : w2.frozen? ⟨g, k * 7 + 4, none⟩ = false := hfz 4
        have z5 : w2.frozen? ⟨g, k * 7 + 5, none⟩ = false := hfz 5
        have z6 : w2.frozen? ⟨g, k * 7 + 6, none⟩ = false := hfz 6
        clear hg2 hc12 hO2 hN2 hany hfz hput hgp hd6
        go_wp2_with fail
        obtain ⟨w3, hw3⟩ : ∃ w3, w3 = w2.setCells g (k * 7) (rawRZ overRZ) := ⟨_, rfl⟩
        go_roundg (zs.length - (k + 1))
        case measure => omega
        case rel => exact ⟨k + 1, ys.set k overRZ, by omega, by go_num, ⟨by rw [List.length_set]; exact HYS.out⟩, HPUT, ⟨fun j hj => by rw [List.getElem?_set_ne (by omega)]; exact HT.out j (by omega)⟩, (HN1.out _ HGP.out).1, (HN1.out _ HGP.out).2⟩
      · go_wp2_with fail
        go_end0
        exact ⟨rfl, HG.out⟩
end Go.Proofs.Ytkgbcoijkmlmnaa.K
