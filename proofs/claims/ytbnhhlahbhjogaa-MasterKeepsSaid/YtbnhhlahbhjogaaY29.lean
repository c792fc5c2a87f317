/- Is there more than is gone through? Lists of records that grow. WRITTEN BY wip/gen_y29.py. -/
import Derived.Test.YtbnhhlahbhjogaaY28
set_option linter.unusedVariables false
set_option linter.unusedSimpArgs false
set_option maxRecDepth 100000
namespace Go.Proofs.Ytbnhhlahbhjogaa.K
open Go.RowKit Go.Proofs.YtbnhhlahbhjogaaW.PrintWords Go.Proofs.YtbnhhlahbhjogaaW.PrintLast Go.Proofs.YtbnhhlahbhjogaaW.PrintMore Go.Proofs.Ytbnhhlahbhjogaa.U Go.Proofs.Ytbnhhlahbhjogaa.T

theorem kMAct_open {w : World} {x : MActD} {cs : List Value} (h : kMAct.K w x cs) : ∃ A1 A2 c1 c2, cs = rawL ⟨x.op, x.fr, x.m⟩ (.slice A1 x.m.set.length c1) (.slice A2 x.m.prs.length c2) ∧ MsgC w x.m A1 A2 c1 c2 := kLet_open (x := ⟨x.op, x.fr, x.m⟩) h
/-- An act in a row: where its cells stand. -/
theorem at_mact {w : World} {A : Option Addr} {n : Nat} {xs : List MActD} (h : Kd.C kMAct w A n xs) (k : Nat) (hk : k < xs.length) : ∃ ad A1 A2 c1 c2, A = some ad ∧ MsgC w (xs[k]).m A1 A2 c1 c2 ∧
    ∀ i u, (rawL ⟨(xs[k]).op, (xs[k]).fr, (xs[k]).m⟩ (.slice A1 (xs[k]).m.set.length c1) (.slice A2 (xs[k]).m.prs.length c2))[i]? = some u → w.cell? (ad.add (k * 12 + i)) = some u := by
  obtain ⟨h1, h2, h3⟩ := h
  obtain ⟨ad, e, hc⟩ := h3 (by omega)
  obtain ⟨cs, hl, hK, hcell⟩ := hc k xs[k] (List.getElem?_eq_getElem hk)
  obtain ⟨A1, A2, c1, c2, rfl, hm1⟩ := kMAct_open hK
  exact ⟨ad, A1, A2, c1, c2, e, hm1, hcell⟩
theorem cell_off {w : World} {ad : Addr} {n : Nat} {cs : List Value} (h : ∀ i u, cs[i]? = some u → w.cell? (ad.add (n + i)) = some u) (i : Nat) (u : Value) (hu : cs[i + 1]? = some u) : w.cell? ⟨(ad.add n).block, (ad.add n).off + (i + 1), none⟩ = some u := by
  have := h (i + 1) u hu
  rw [show n + (i + 1) = n + i + 1 from by omega] at this
  by_cases h0 : i = 0
  · subst h0
    rw [← add_add'] at this
    exact this
  · rw [← this]
    congr 1
    simp [Addr.add]
    split
    · simp_all
    · simp; omega
set_option maxHeartbeats 6400000 in
theorem great22 (j : JobD) (wk tr tmo : Int) (A1 A2 A3 A4 A5 : Option Addr) (c1 c2 c3 c4 c5 : Nat) (AR : Option Addr) (cR : Nat) (rs : List RecD) (A0 : Option Addr) (c0 : Nat) (xs : List MActD) (most : Int) (w : World) (hj : JobC w j A1 A2 A3 A4 A5 c1 c2 c3 c4 c5) (hgs : ∀ l ∈ j.splits, ∀ x ∈ l, GPair x)
    (hR : Kd.C kRec w AR rs.length rs) (hgr : ∀ s ∈ rs, GRec s) (hr0 : Kd.C kMAct w A0 xs.length xs) (hg0 : ∀ x ∈ xs, GMAct x) :
    Calls Try.prog 24 #[.agg #[.slice A1 j.splits.length c1, .int .i64 j.parts, .slice A2 j.map.length c2, .slice A3 j.combine.length c3, .slice A4 j.reduce.length c4, .int .i64 j.chunk, .int .i64 j.window, .int .i64 j.fuel, .slice A5 j.marks.length c5, .int .i64 wk, .int .i64 tr, .int .i64 tmo], .slice AR rs.length cR, .slice A0 xs.length c0, .int .i64 most] w fun e w' => RetBool (fun r => r = false → (rs.length : Int) ≤ 20 ∧ (∀ s ∈ rs, SmallR s) ∧ (xs.length : Int) ≤ most ∧ ∀ x ∈ xs, SmallM x.m) e ∧ Below w.heap.size w w' := by
  obtain ⟨N, hN⟩ : ∃ N, N = j.splits.length := ⟨_, rfl⟩
  obtain ⟨g, hg⟩ : ∃ g, g = w.heap.size := ⟨_, rfl⟩
  have hmx := Kd.C_max hr0
  have hmr := Kd.C_max hR
  obtain ⟨w0, hw0⟩ : ∃ w0, w0 = w.alloc (.cells #[.slice A1 N c1, .int .i64 j.parts, .slice A2 j.map.length c2, .slice A3 j.combine.length c3, .slice A4 j.reduce.length c4, .int .i64 j.chunk, .int .i64 j.window, .int .i64 j.fuel, .slice A5 j.marks.length c5, .int .i64 wk, .int .i64 tr, .int .i64 tmo] 28) := ⟨_, rfl⟩
  have hb0 : Below w.heap.size w w0 := by rw [hw0]; exact (Below.refl _ _).alloc (Nat.le_refl _) _
  have hg0w : w0.heap[g]? = some (.cells ([.slice A1 N c1, .int .i64 j.parts, .slice A2 j.map.length c2, .slice A3 j.combine.length c3, .slice A4 j.reduce.length c4, .int .i64 j.chunk, .int .i64 j.window, .int .i64 j.fuel, .slice A5 j.marks.length c5, .int .i64 wk, .int .i64 tr, .int .i64 tmo] : List Value).toArray 28 (0, 0)) := by rw [hw0, hg]; exact alloc_at w _
  have HJ := Aside0.mk hj
  have HGS := Aside0.mk hgs
  have HR := Aside0.mk hR
  have HGR := Aside0.mk hgr
  have HR0 := Aside0.mk hr0
  have HG0 := Aside0.mk hg0
  have HN := Aside0.mk hN
  have HG := Aside0.mk hg
  have HW0 := Aside0.mk hw0
  have HB0 := Aside0.mk hb0
  have HGW := Aside0.mk hg0w
  have huc := Try.underlying28
  have huj := Try.underlying26
  have hum := Try.underlying45
  have hua := Try.underlying70
  rw [← hN]
  clear hj hgs hR hgr hr0 hg0 hN hg hw0 hb0 hg0w
  go_enter Try.func24, Try.ntmps24
  go_upto_region 1 with (fail)
  rw [show w.alloc (.cells #[.slice A1 N c1, .int .i64 j.parts, .slice A2 j.map.length c2, .slice A3 j.combine.length c3, .slice A4 j.reduce.length c4, .int .i64 j.chunk, .int .i64 j.window, .int .i64 j.fuel, .slice A5 j.marks.length c5, .int .i64 wk, .int .i64 tr, .int .i64 tmo] 28) = w0 from HW0.out.symm, ← HG.out]
  go_wp2_with fail
  go_loopg [9] xs.length (fun kq v9 w' => ∃ k : Nat, k + kq = xs.length ∧ v9 = .int .i64 k ∧ Aside0 (∀ x ∈ xs.take k, SmallM x.m) ∧ Aside0 (Below w.heap.size w w') ∧ Aside0 (w'.heap[g]? = some (.cells ([.slice A1 N c1, .int .i64 j.parts, .slice A2 j.map.length c2, .slice A3 j.combine.length c3, .slice A4 j.reduce.length c4, .int .i64 j.chunk, .int .i64 j.window, .int .i64 j.fuel, .slice A5 j.marks.length c5, .int .i64 wk, .int .i64 tr, .int .i64 tmo] : List Value).toArray 28 (0, 0))))
  case atStart => exact ⟨0, by omega, rfl, ⟨by simp⟩, HB0, HGW⟩
  case round =>
    obtain ⟨k, hk, rfl, HA, HB, HGB⟩ := hrel
    have HGJ2 := Aside0.mk (greatJob j A1 A2 A3 A4 A5 c1 c2 c3 c4 c5 wr (JobC.below HJ.out HB.out) HGS.out)
    rw [← HN.out] at HGJ2
    have HGR2 := Aside0.mk (fun w' (hb : Below w.heap.size w w') => greatRecords AR cR rs 20 w' (Kd.C_below HR.out hb) HGR.out)
    have x0 : wr.cell? ⟨g, 0, none⟩ = some (.slice A1 N c1) := cell_of_blk HGB.out
    have x1 : wr.cell? ⟨g, 1, none⟩ = some (.int .i64 j.parts) := cell_of_blk HGB.out
    have x2 : wr.cell? ⟨g, 2, none⟩ = some (.slice A2 j.map.length c2) := cell_of_blk HGB.out
    have x3 : wr.cell? ⟨g, 3, none⟩ = some (.slice A3 j.combine.length c3) := cell_of_blk HGB.out
    have x4 : wr.cell? ⟨g, 4, none⟩ = some (.slice A4 j.reduce.length c4) := cell_of_blk HGB.out
    have x5 : wr.cell? ⟨g, 5, none⟩ = some (.int .i64 j.chunk) := cell_of_blk HGB.out
    have x6 : wr.cell? ⟨g, 6, none⟩ = some (.int .i64 j.window) := cell_of_blk HGB.out
    have x7 : wr.cell? ⟨g, 7, none⟩ = some (.int .i64 j.fuel) := cell_of_blk HGB.out
    have x8 : wr.cell? ⟨g, 8, none⟩ = some (.slice A5 j.marks.length c5) := cell_of_blk HGB.out
    by_cases hmost : (xs.length : Int) ≤ most
    case' neg =>
      have hgt : most < (xs.length : Int) := by omega
      have hbg : decide (most < (xs.length : Int)) = true := decide_eq_true hgt
      by_cases hlt : k < xs.length
      all_goals
        first
          | have hltI : (k : Int) < xs.length := by omega
          | have hltI : ¬ (k : Int) < xs.length := by omega
        go_wp2_with fail
        refine HGJ2.out.mono ?_
        rintro e w1 ⟨⟨r1, rfl, -⟩, hb1⟩
        have HB1 := Aside0.mk (below_then HB.out HB.out.size hb1)
        clear hb1 HGJ2
        cases r1
        case' true =>
          go_wp2_with fail
          go_ret
          exact ⟨RetBool.mk true (by simp), HB1.out⟩
        go_wp2_with fail
        refine (HGR2.out w1 HB1.out).mono ?_
        rintro e w2 ⟨⟨r2, rfl, -⟩, hb2⟩
        have HB2 := Aside0.mk (below_then HB1.out HB1.out.size hb2)
        clear hb2 HGR2
        cases r2
        all_goals
          go_wp2_with fail
          go_ret
          exact ⟨RetBool.mk true (by simp), HB2.out⟩
    by_cases hlt : k < xs.length
    case' neg =>
      have hltI : ¬ (k : Int) < xs.length := by omega
      have hngt : ¬ most < (xs.length : Int) := by omega
      have hbg : decide (most < (xs.length : Int)) = false := decide_eq_false hngt
      have HALL : Aside0 (∀ x ∈ xs, SmallM x.m) := ⟨by
        have h := HA.out
        rw [List.take_of_length_le (by omega)] at h
        exact h⟩
      go_wp2_with fail
      refine HGJ2.out.mono ?_
      rintro e w1 ⟨⟨r1, rfl, -⟩, hb1⟩
      have HB1 := Aside0.mk (below_then HB.out HB.out.size hb1)
      clear hb1 HGJ2
      cases r1
      case' true =>
        go_wp2_with fail
        go_ret
        exact ⟨RetBool.mk true (by simp), HB1.out⟩
      go_wp2_with fail
      refine (HGR2.out w1 HB1.out).mono ?_
      rintro e w2 ⟨⟨r2, rfl, hr2⟩, hb2⟩
      have HB2 := Aside0.mk (below_then HB1.out HB1.out.size hb2)
      have HR2 := Aside0.mk hr2
      clear hb2 HGR2 hr2
      cases r2
      case' true =>
        go_wp2_with fail
        go_ret
        exact ⟨RetBool.mk true (by simp), HB2.out⟩
      go_wp2_with fail
      go_ret
      exact ⟨RetBool.mk _ (fun _ => ⟨(HR2.out trivial).1, (HR2.out trivial).2, hmost, HALL.out⟩), HB2.out⟩
    have hltI : (k : Int) < xs.length := by omega
    have hk0 : (0 : Int) ≤ (k : Int) := by omega
    obtain ⟨ad, B1, B2, d1, d2, rfl, hm1, hc⟩ := at_mact (Kd.C_below HR0.out HB.out) k hlt
    obtain ⟨x, hx⟩ : ∃ x, x = xs[k]'hlt := ⟨_, rfl⟩
    rw [← hx] at hm1 hc
    have hgx : GMAct x := by rw [hx]; exact HG0.out _ (List.getElem_mem hlt)
    have ht : xs.take (k + 1) = xs.take k ++ [x] := by rw [List.take_succ_eq_append_getElem hlt, hx]
    have HT := Aside0.mk ht
    have hcells := cell_off hc
    obtain ⟨P, hP⟩ : ∃ P, ad.add (k * 12) = P := ⟨_, rfl⟩
    rw [hP] at hcells
    obtain ⟨g0, o0, z0⟩ := P
    have HG1 := Aside0.mk (greatMessage x.m B1 B2 d1 d2 wr hm1 hgx.2.2.2.2.2.2.2.2.2.2.2)
    have f2 : wr.cell? ⟨g0, o0 + 2, none⟩ = some (.int .i64 x.m.k) := hcells 1 _ rfl
    have f3 : wr.cell? ⟨g0, o0 + 3, none⟩ = some (.int .i64 x.m.s) := hcells 2 _ rfl
    have f4 : wr.cell? ⟨g0, o0 + 4, none⟩ = some (.int .i64 x.m.a) := hcells 3 _ rfl
    have f5 : wr.cell? ⟨g0, o0 + 5, none⟩ = some (.int .i64 x.m.p) := hcells 4 _ rfl
    have f6 : wr.cell? ⟨g0, o0 + 6, none⟩ = some (.int .i64 x.m.q) := hcells 5 _ rfl
    have f7 : wr.cell? ⟨g0, o0 + 7, none⟩ = some (.int .i64 x.m.n) := hcells 6 _ rfl
    have f8 : wr.cell? ⟨g0, o0 + 8, none⟩ = some (.int .i64 x.m.e) := hcells 7 _ rfl
    have f9 : wr.cell? ⟨g0, o0 + 9, none⟩ = some (.int .i64 x.m.r) := hcells 8 _ rfl
    have f10 : wr.cell? ⟨g0, o0 + 10, none⟩ = some (.slice B1 x.m.set.length d1) := hcells 9 _ rfl
    have f11 : wr.cell? ⟨g0, o0 + 11, none⟩ = some (.slice B2 x.m.prs.length d2) := hcells 10 _ rfl
    unfold msgV at HG1
    clear hm1 hc hx hgx ht hcells HGJ2 HGR2
    clear x0 x1 x2 x3 x4 x5 x6 x7 x8
    go_wp2_with fail
    refine HG1.out.mono ?_
    rintro e w1 ⟨⟨r1, rfl, hr1⟩, hb1⟩
    have HR1 := Aside0.mk hr1
    have HB1 := Aside0.mk (below_then HB.out HB.out.size hb1)
    have HG1' := Aside0.mk ((hb1.block g (blk_lt' HGB.out)).trans HGB.out)
    clear hr1 hb1 HG1 f2 f3 f4 f5 f6 f7 f8 f9 f10 f11
    cases r1
    case' true =>
      go_wp2_with fail
      go_ret
      exact ⟨RetBool.mk true (by simp), HB1.out⟩
    go_wp2_with fail
    go_roundg (xs.length - (k + 1))
    case measure => omega
    case rel => exact ⟨k + 1, by omega, by go_num, ⟨fun y hy => by
      rw [HT.out] at hy
      rcases List.mem_append.1 hy with h | h
      · exact HA.out y h
      · rw [List.mem_singleton.1 h]
        exact HR1.out trivial⟩, HB1, HG1'⟩

/-- Records in a row of one's own, whose rows stand in blocks that nobody writes. -/
structure AllP (w : World) (base : Nat) (v : Value) (zs : List RecZ) (Z : Nat → Prop) : Prop where
  row : Own kRR 90 w base v zs
  sets : ∀ z ∈ zs, Kd.R kI 3 w base Z z.sv z.x.set
  prs : ∀ z ∈ zs, Kd.R kPair 113 w base Z z.pv z.x.prs
  out : ∀ k, v.ownBlock = some k → ¬ Z k
  lo : ∀ k, Z k → base ≤ k
  lt : ∀ k, Z k → k < w.heap.size
section
variable {w w' : World} {base : Nat} {v : Value} {zs : List RecZ} {Z S : Nat → Prop}
theorem AllP.nil (w : World) (base : Nat) : AllP w base (.slice none 0 0) [] (fun _ => False) :=
  ⟨Own.nil _ _ _ _, fun z hz => (by cases hz), fun z hz => (by cases hz), fun _ _ h => h, fun _ h => h.elim, fun _ h => h.elim⟩
theorem AllP.ch (h : AllP w base v zs Z) (hc : Ch w w' S) (h1 : ∀ k, Z k → ¬ S k) (h2 : ∀ k, v.ownBlock = some k → ¬ S k) : AllP w' base v zs Z where
  row := h.row.ch flat_RR hc h2
  sets z hz := Kd.R_step (h.sets z hz) (fun k hk hlt => hc.block k hlt (h1 k hk))
  prs z hz := Kd.R_step (h.prs z hz) (fun k hk hlt => hc.block k hlt (h1 k hk))
  out := h.out
  lo := h.lo
  lt k hk := Nat.lt_of_lt_of_le (h.lt k hk) hc.size
theorem AllP.below (h : AllP w base v zs Z) (hb : Below w.heap.size w w') : AllP w' base v zs Z := h.ch (Ch.of_below hb (fun _ => False)) (fun _ _ h => h) (fun _ _ h => h)
theorem AllP.reads (h : AllP w base v zs Z) : ∃ A c, v = .slice A zs.length c ∧ Kd.C kRec w A zs.length (zs.map (·.x)) := by
  obtain ⟨A, c, e, _, hC⟩ := h.row.reads
  refine ⟨A, c, e, ?_⟩
  obtain ⟨h1, h2, h3⟩ := hC
  refine ⟨by rw [List.length_map], h2, fun hn => ?_⟩
  obtain ⟨ad, ea, hc⟩ := h3 hn
  refine ⟨ad, ea, fun j x hj => ?_⟩
  rw [List.getElem?_map] at hj
  obtain ⟨z, hz, rfl⟩ := Option.map_eq_some_iff.1 hj
  obtain ⟨cs, hl, hK, hcell⟩ := hc j z hz
  have hm := List.mem_of_getElem? hz
  obtain ⟨A1, c1, e1, hle1, hC1⟩ := Kd.R_reads (h.sets z hm)
  obtain ⟨A2, c2, e2, hle2, hC2⟩ := Kd.R_reads (h.prs z hm)
  obtain ⟨rfl, _, _⟩ := hK
  refine ⟨rawRZ z, rfl, ?_, hcell⟩
  unfold rawRZ
  rw [e1, e2]
  exact kRec_mk ⟨hC1, hC2, hle1, hle2⟩
/-- Behind an append of an answer's records. -/
theorem AllP.join {w1 : World} {B : Nat} {r v1 : Value} {ys : List RecZ} {ow : Nat → Option Nat} (h : AllP w base v zs Z) (hr : RListP w B r ys ow) (hB : base ≤ B) (hZ : ∀ k, Z k → k < B) (hv : ∀ k, v.ownBlock = some k → k < B ∨ ow k = none)
    (ho : Own kRR 90 w1 base v1 (zs ++ ys)) (hg : w.grownBy w1 v.ownBlock) (hat : ∀ k, v1.ownBlock = some k → v.ownBlock = some k ∨ w.heap.size ≤ k) :
    AllP w1 base v1 (zs ++ ys) (fun k => Z k ∨ (ow k ≠ none ∧ B ≤ k)) := by
  have hst : ∀ k, (Z k ∨ (ow k ≠ none ∧ B ≤ k)) → some k ≠ v.ownBlock := fun k hk e => by
    rcases hk with hk | ⟨hk, hb⟩
    · exact h.out k e.symm hk
    · rcases hv k e.symm with h1 | h1
      · omega
      · exact hk h1
  have hsz : w.heap.size ≤ w1.heap.size := (Ch.of_grown (S := fun _ => True) hg (fun _ _ => trivial)).size
  refine ⟨ho, fun z hz => ?_, fun z hz => ?_, fun k hk hZk => ?_, fun k hk => ?_, fun k hk => ?_⟩
  · rcases List.mem_append.1 hz with hz | hz
    · exact Kd.R_grown (Kd.R_mono (h.sets z hz) (fun k hk => .inl hk)) hg hst
    · obtain ⟨j, hj, rfl⟩ := List.getElem_of_mem hz
      exact Kd.R_grown (Kd.R_lower (Kd.R_mono (Kd.R_bound (hr.sets j hj)) (fun k hk => .inr ⟨by rw [hk.1]; simp, hk.2.1⟩)) hB) hg hst
  · rcases List.mem_append.1 hz with hz | hz
    · exact Kd.R_grown (Kd.R_mono (h.prs z hz) (fun k hk => .inl hk)) hg hst
    · obtain ⟨j, hj, rfl⟩ := List.getElem_of_mem hz
      exact Kd.R_grown (Kd.R_lower (Kd.R_mono (Kd.R_bound (hr.prs j hj)) (fun k hk => .inr ⟨by rw [hk.1]; simp, hk.2.1⟩)) hB) hg hst
  · rcases hat k hk with h1 | h1
    · exact hst k hZk h1.symm
    · rcases hZk with h2 | ⟨h2, _⟩
      · have := h.lt k h2; omega
      · have := hr.lt k h2; omega
  · rcases hk with h1 | ⟨_, h1⟩
    · exact h.lo k h1
    · omega
  · rcases hk with h1 | ⟨h1, _⟩
    · exact Nat.lt_of_lt_of_le (h.lt k h1) hsz
    · exact Nat.lt_of_lt_of_le (hr.lt k h1) hsz
end
end Go.Proofs.Ytbnhhlahbhjogaa.K
