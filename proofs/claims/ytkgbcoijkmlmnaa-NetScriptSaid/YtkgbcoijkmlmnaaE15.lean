/- All letters, as a list that shares nothing. WRITTEN BY wip/gen_list.py. -/
import Derived.Test.YtkgbcoijkmlmnaaE11
set_option linter.unusedVariables false
set_option linter.unusedSimpArgs false
set_option maxRecDepth 100000
namespace Go.Proofs.Ytkgbcoijkmlmnaa.K
open Go.RowKit Go.Proofs.YtkgbcoijkmlmnaaW.PrintWords Go.Proofs.YtkgbcoijkmlmnaaW.PrintLast Go.Proofs.YtkgbcoijkmlmnaaW.PrintMore Go.Proofs.Ytkgbcoijkmlmnaa.U Go.Proofs.Ytkgbcoijkmlmnaa.T

structure LetZ where
  x : LetD
  sv : Value
  pv : Value
def rawZ (z : LetZ) : List Value := rawL z.x z.sv z.pv
def OkZ (z : LetZ) (cs : List Value) : Prop := cs = rawZ z ∧ z.sv.oneCell' = true ∧ z.pv.oneCell' = true
def kLR : Kd LetZ where
  sz := 12
  E := []
  K := fun _ z cs => OkZ z cs
  M := fun _ _ _ z cs => OkZ z cs
  K_len := by
    rintro w z cs ⟨rfl, _⟩
    rfl
  K_one := by
    rintro w z cs ⟨rfl, h1, h2⟩ u hu
    simp only [rawZ, rawL, List.mem_cons, List.not_mem_nil, or_false] at hu
    rcases hu with rfl | rfl | rfl | rfl | rfl | rfl | rfl | rfl | rfl | rfl | rfl | rfl
    all_goals first | exact h1 | exact h2 | rfl
  K_below := fun _ h => h
  K_of_M := fun h => h
  M_mono := fun _ h => h
  M_bound := fun h => h
  M_move := fun _ h => h
  M_lower := fun _ h => h
theorem flat_LR : Flat kLR := ⟨fun h _ _ _ => h⟩
structure ListP (w : World) (base : Nat) (v : Value) (zs : List LetZ) (ow : Nat → Option Nat) : Prop where
  row : Own kLR 36 w base v zs
  sets : ∀ j (h : j < zs.length), Kd.R kI 3 w base (fun k => ow k = some j) (zs[j]).sv (zs[j]).x.m.set
  prs : ∀ j (h : j < zs.length), Kd.R kPair 114 w base (fun k => ow k = some j) (zs[j]).pv (zs[j]).x.m.prs
  out : ∀ k, v.ownBlock = some k → ow k = none
  lt : ∀ k, ow k ≠ none → k < w.heap.size
section
variable {w w' : World} {base : Nat} {v : Value} {zs : List LetZ} {ow : Nat → Option Nat}
theorem ListP.below (h : ListP w base v zs ow) (hb : Below w.heap.size w w') : ListP w' base v zs ow :=
  ⟨h.row.below hb, fun j hj => Kd.R_below (h.sets j hj) hb, fun j hj => Kd.R_below (h.prs j hj) hb, h.out, fun k hk => Nat.lt_of_lt_of_le (h.lt k hk) hb.size⟩
theorem ListP.reads (h : ListP w base v zs ow) : ∃ A c, v = .slice A zs.length c ∧ Kd.C kLet w A zs.length (zs.map (·.x)) := by
  obtain ⟨A, c, e, _, hC⟩ := h.row.reads
  refine ⟨A, c, e, ?_⟩
  obtain ⟨h1, h2, h3⟩ := hC
  refine ⟨by rw [List.length_map], h2, fun hn => ?_⟩
  obtain ⟨ad, ea, hc⟩ := h3 hn
  refine ⟨ad, ea, fun j x hj => ?_⟩
  rw [List.getElem?_map] at hj
  obtain ⟨z, hz, rfl⟩ := Option.map_eq_some_iff.1 hj
  obtain ⟨cs, hl, hK, hcell⟩ := hc j z hz
  obtain ⟨hlt, hzj⟩ := List.getElem?_eq_some_iff.1 hz
  have h4 := h.sets j hlt
  have h5 := h.prs j hlt
  rw [hzj] at h4 h5
  obtain ⟨A1, c1, e1, hle1, hC1⟩ := Kd.R_reads h4
  obtain ⟨A2, c2, e2, hle2, hC2⟩ := Kd.R_reads h5
  obtain ⟨rfl, _, _⟩ := hK
  refine ⟨rawZ z, rfl, ?_, hcell⟩
  unfold rawZ
  rw [e1, e2]
  exact kLet_mk ⟨hC1, hC2, hle1, hle2⟩
/-- A letter's copy stands behind the others. -/
theorem ListP.snoc {w2 wo w3 w4 : World} {v4 : Value} {x : LetD} {B1 B2 : Option Addr} {d1 d2 : Nat} (h : ListP w base v zs ow) (hb2 : Below w.heap.size w w2) (hbo : Below w2.heap.size w2 wo) (hb3 : Below wo.heap.size wo w3) (hbase : base ≤ w.heap.size)
    (hs : Own kI 3 wo w2.heap.size (.slice B1 x.m.set.length d1) x.m.set) (hp : Own kPair 114 wo w2.heap.size (.slice B2 x.m.prs.length d2) x.m.prs)
    (h4 : Own kLR 36 w4 base v4 (zs ++ [⟨x, .slice B1 x.m.set.length d1, .slice B2 x.m.prs.length d2⟩])) (hg : w3.grownBy w4 v.ownBlock) (hat : ∀ k, v4.ownBlock = some k → v.ownBlock = some k ∨ w3.heap.size ≤ k) :
    ∃ ow', ListP w4 base v4 (zs ++ [⟨x, .slice B1 x.m.set.length d1, .slice B2 x.m.prs.length d2⟩]) ow' := by
  have hb23 := below_then hb2 hb2.size (below_then hbo hbo.size hb3)
  have hvl : ∀ k, v.ownBlock = some k → k < w.heap.size := h.row.lt
  have hnew : ∀ {α : Type} (e : TypeId) (d : Kd α) (u : Value) (xs : List α), Own d e wo w2.heap.size u xs → Kd.R d e w4 base (fun k => w2.heap.size ≤ k ∧ k < wo.heap.size) u xs := fun e d u xs hO => by
    have h1 := Kd.R_mono (Kd.R_bound hO) (fun k hk => (⟨hk.2.1, hk.2.2.1⟩ : w2.heap.size ≤ k ∧ k < wo.heap.size))
    refine Kd.R_lower (Kd.R_step h1 (fun k hk hlt => ?_)) (Nat.le_trans hbase hb2.size)
    exact (hg.block k (Nat.lt_of_lt_of_le hlt hb3.size) (fun e => by have := hvl k e.symm; have := hb2.size; omega)).trans (hb3.block k hlt)
  have hold : ∀ {α : Type} (e : TypeId) (d : Kd α) (u : Value) (xs : List α) (j : Nat), Kd.R d e w base (fun k => ow k = some j) u xs → Kd.R d e w4 base (fun k => (if w2.heap.size ≤ k ∧ k < wo.heap.size then some zs.length else ow k) = some j) u xs := fun e d u xs j hO => by
    refine Kd.R_mono (Kd.R_step hO (w1 := w4) (fun k hk hlt => ?_)) (fun k hk => ?_)
    · exact (hg.block k (Nat.lt_of_lt_of_le hlt hb23.size) (fun e => by have := h.out k e.symm; rw [hk] at this; cases this)).trans (hb23.block k hlt)
    · have := h.lt k (by rw [hk]; simp)
      rw [if_neg (fun hh => by have := hb2.size; omega)]
      exact hk
  refine ⟨fun k => if w2.heap.size ≤ k ∧ k < wo.heap.size then some zs.length else ow k, h4, fun j hj => ?_, fun j hj => ?_, fun k hk => ?_, fun k hk => ?_⟩
  · rw [List.length_append, List.length_singleton] at hj
    by_cases hjl : j < zs.length
    · rw [List.getElem_append_left hjl]
      exact hold _ _ _ _ j (h.sets j hjl)
    · obtain rfl : j = zs.length := by omega
      rw [List.getElem_append_right (Nat.le_refl _)]
      simp only [Nat.sub_self, List.getElem_cons_zero]
      exact Kd.R_mono (hnew _ _ _ _ hs) (fun k hk => by rw [if_pos hk])
  · rw [List.length_append, List.length_singleton] at hj
    by_cases hjl : j < zs.length
    · rw [List.getElem_append_left hjl]
      exact hold _ _ _ _ j (h.prs j hjl)
    · obtain rfl : j = zs.length := by omega
      rw [List.getElem_append_right (Nat.le_refl _)]
      simp only [Nat.sub_self, List.getElem_cons_zero]
      exact Kd.R_mono (hnew _ _ _ _ hp) (fun k hk => by rw [if_pos hk])
  · have h3 := hb3.size
    have h2 := hb2.size
    have ho := hbo.size
    rcases hat k hk with h1 | h1
    · have := hvl k h1
      show (if _ then _ else _) = none
      rw [if_neg (fun hh => by omega)]
      exact h.out k h1
    · show (if _ then _ else _) = none
      rw [if_neg (fun hh => by omega)]
      cases hok : ow k with
      | none => rfl
      | some j => exact absurd (h.lt k (by rw [hok]; simp)) (by omega)
  · have h4s := hg.size
    have h3 := hb3.size
    have h2 := hb2.size
    have ho := hbo.size
    by_cases hh : w2.heap.size ≤ k ∧ k < wo.heap.size
    · omega
    · rw [if_neg hh] at hk
      have := h.lt k hk
      omega
end
theorem zs_C (w : World) (z : LetZ) (h1 : z.sv.oneCell' = true) (h2 : z.pv.oneCell' = true) {g : Nat} {t : TypeId} {fr : Nat × Nat} (h : w.heap[g]? = some (.cells (rawZ z).toArray t fr)) : Kd.C kLR w (some ⟨g, 0, none⟩) 1 [z] := by
  refine ⟨rfl, by show 1 ≤ 9223372036854775807; omega, fun _ => ⟨_, rfl, fun j y hj => ?_⟩⟩
  have hj0 : j = 0 ∧ z = y := by
    cases j with
    | zero => simpa using hj
    | succ j => simp at hj
  obtain ⟨rfl, rfl⟩ := hj0
  refine ⟨_, rfl, ⟨rfl, h1, h2⟩, fun i u hu => ?_⟩
  rw [show 0 * kLR.sz + i = i from by rw [Nat.zero_mul, Nat.zero_add]]
  exact cells_of_blk h i u hu
set_option maxHeartbeats 6400000 in
theorem netList (w : World) (gN : Nat) (F : Nat → Prop) (ls : List LetD) (lost : Int) (h : NetR w gN F ls lost) (hx : ∀ x ∈ ls, x.m.set.length ≤ 1000000 ∧ x.m.prs.length ≤ 1000000) :
    Calls Try.prog 20 #[.pointer (some ⟨gN, 0, none⟩)] w fun e w' => ∃ v zs ow, e = .returned v ∧ ListP w' w.heap.size v zs ow ∧ zs.map (·.x) = ls ∧ Below w.heap.size w w' := by
  obtain ⟨gT, rv, ok, h⟩ := h
  obtain ⟨A0, c0, hrv, _, _⟩ := Kd.R_reads h.row
  subst hrv
  have hc0 : w.cell? ⟨gN, 0, none⟩ = some (.slice A0 ls.length c0) := cell_of_blk h.blk
  have hl128 := h.len
  have HP := Aside0.mk h
  have HX := Aside0.mk hx
  have hu := Try.underlying36
  have hum := Try.underlying34
  clear h hx
  go_enter Try.func20, Try.ntmps20
  go_wp2_with fail
  clear hc0
  go_loopg [3, 13] ls.length (fun kq v3 v13 w' => ∃ (k : Nat) (A : Option Addr) (c : Nat), k + kq = ls.length ∧ v13 = .int .i64 k ∧ v3 = .slice A k c ∧ Aside0 (∃ zs ow, ListP w' w.heap.size (.slice A k c) zs ow ∧ zs.map (·.x) = ls.take k) ∧ Aside0 (Below w.heap.size w w'))
  case atStart => exact ⟨0, none, 0, by omega, rfl, rfl, ⟨[], fun _ => none, ⟨Own.nil kLR _ w _, fun j h => by simp at h, fun j h => by simp at h, fun k _ => rfl, fun k h => absurd rfl h⟩, by simp⟩, ⟨Below.refl _ _⟩⟩
  case round =>
    obtain ⟨k, A, c, hk, rfl, rfl, HZ, HB⟩ := hrel
    by_cases hlt : k < ls.length
    case' neg =>
      have hltI : ¬ (k : Int) < ls.length := by omega
      go_wp2_with fail
      go_ret
      obtain ⟨zs, ow, hz, hm⟩ := HZ.out
      rw [List.take_of_length_le (by omega)] at hm
      exact ⟨_, rfl, zs, ⟨ow, hz⟩, hm, HB.out⟩
    have hltI : (k : Int) < ls.length := by omega
    have hk0 : (0 : Int) ≤ (k : Int) := by omega
    have hP := HP.out.below HB.out
    obtain ⟨g, cq, A1, c1, A2, c2, hrow, hokg, hat, hs1, hs2⟩ := hP.elem k hlt
    obtain ⟨rfl, _, rfl⟩ : A0 = some ⟨g, 0, none⟩ ∧ True ∧ c0 = cq := by injection hrow with a b c; exact ⟨a, trivial, c⟩
    have hxl := HX.out _ (List.getElem_mem hlt)
    obtain ⟨x, hx⟩ : ∃ x, x = ls[k]'hlt := ⟨_, rfl⟩
    rw [← hx] at hat hs1 hs2 hxl
    have ht0 : ls.take (k + 1) = ls.take k ++ [x] := by rw [List.take_succ_eq_append_getElem hlt, hx]
    have HT0 := Aside0.mk ht0
    obtain ⟨fr, dst, m⟩ := x
    have hat : LetAt wr ⟨g, k * 12, none⟩ fr dst m (.slice A1 m.set.length c1) (.slice A2 m.prs.length c2) := hat
    have hmc : MsgC wr m A1 A2 c1 c2 := MsgC.of hs1 hs2
    have hxl : m.set.length ≤ 1000000 ∧ m.prs.length ≤ 1000000 := hxl
    obtain ⟨ls1, hls1⟩ : ∃ n, n = m.set.length := ⟨_, rfl⟩
    obtain ⟨lp1, hlp1⟩ : ∃ n, n = m.prs.length := ⟨_, rfl⟩
    rw [← hls1, ← hlp1] at hat
    obtain ⟨wL, hwL⟩ : ∃ w', w' = wr.alloc (.cells #[.int .i64 fr, .int .i64 dst, .int .i64 m.k, .int .i64 m.s, .int .i64 m.a, .int .i64 m.p, .int .i64 m.q, .int .i64 m.n, .int .i64 m.e, .int .i64 m.r, .slice A1 ls1 c1, .slice A2 lp1 c2] 36) := ⟨_, rfl⟩
    obtain ⟨gL, hgL⟩ : ∃ g, g = wr.heap.size := ⟨_, rfl⟩
    have hbL : Below wr.heap.size wr wL := by rw [hwL]; exact (Below.refl _ _).alloc (Nat.le_refl _) _
    have hiL : wL.heap[gL]? = some (.cells ([.int .i64 fr, .int .i64 dst, .int .i64 m.k, .int .i64 m.s, .int .i64 m.a, .int .i64 m.p, .int .i64 m.q, .int .i64 m.n, .int .i64 m.e, .int .i64 m.r, .slice A1 ls1 c1, .slice A2 lp1 c2] : List Value).toArray 36 (0, 0)) := by rw [hwL, hgL]; exact alloc_at wr _
    have HWL := Aside0.mk (And.intro hwL hgL)
    have HBL := Aside0.mk hbL
    have HLS1 := Aside0.mk (And.intro hls1 hlp1)
    have hP : (⟨g, 0, none⟩ : Addr).add (k * 12) = ⟨g, k * 12, none⟩ := by rw [add_plain]
    have hOWN : Aside0 (Calls Try.prog 43 #[.agg #[.int .i64 fr, .int .i64 dst, .int .i64 m.k, .int .i64 m.s, .int .i64 m.a, .int .i64 m.p, .int .i64 m.q, .int .i64 m.n, .int .i64 m.e, .int .i64 m.r, .slice A1 ls1 c1, .slice A2 lp1 c2]] wL fun e w'' => ∃ B1 d1 B2 d2, e = .returned (.agg #[.int .i64 fr, .int .i64 dst, .int .i64 m.k, .int .i64 m.s, .int .i64 m.a, .int .i64 m.p, .int .i64 m.q, .int .i64 m.n, .int .i64 m.e, .int .i64 m.r, .slice B1 ls1 d1, .slice B2 lp1 d2]) ∧ Own kI 3 w'' wL.heap.size (.slice B1 m.set.length d1) m.set ∧ Own kPair 114 w'' wL.heap.size (.slice B2 m.prs.length d2) m.prs ∧ Below wL.heap.size wL w'') := ⟨by
      have hO := own_ ⟨fr, dst, m⟩ A1 A2 c1 c2 wL (hmc.below hbL) hxl.1 hxl.2
      rw [HLS1.out.1, HLS1.out.2]
      refine hO.mono ?_
      rintro e w'' ⟨sv, pv, rfl, h1, h2, hb⟩
      obtain ⟨B1, d1, rfl, _, _⟩ := h1.reads
      obtain ⟨B2, d2, rfl, _, _⟩ := h2.reads
      exact ⟨B1, d1, B2, d2, rfl, h1, h2, hb⟩⟩
    obtain ⟨zs, ow, hz, hmz⟩ := HZ.out
    have hzl : zs.length = k := by have := congrArg List.length hmz; rw [List.length_map, List.length_take] at this; omega
    have HZZ := Aside0.mk (And.intro hz (And.intro hmz hzl))
    obtain ⟨f0, f1, f2, f3, f4, f5, f6, f7, f8, f9, fa, fb⟩ := hat
    clear hokg hs1 hs2 hmc hls1 hlp1 hx ht0 hxl hwL hgL hz hmz hzl hrow hbL HZ
    go_upto_region 7 with (fail)
    rw [← HWL.out.1, ← HWL.out.2]
    have l0 : wL.cell? ⟨gL, 0, none⟩ = some (.int .i64 fr) := cell_of_blk hiL
    have l1 : wL.cell? ⟨gL, 1, none⟩ = some (.int .i64 dst) := cell_of_blk hiL
    have l2 : wL.cell? ⟨gL, 2, none⟩ = some (.int .i64 m.k) := cell_of_blk hiL
    have l3 : wL.cell? ⟨gL, 3, none⟩ = some (.int .i64 m.s) := cell_of_blk hiL
    have l4 : wL.cell? ⟨gL, 4, none⟩ = some (.int .i64 m.a) := cell_of_blk hiL
    have l5 : wL.cell? ⟨gL, 5, none⟩ = some (.int .i64 m.p) := cell_of_blk hiL
    have l6 : wL.cell? ⟨gL, 6, none⟩ = some (.int .i64 m.q) := cell_of_blk hiL
    have l7 : wL.cell? ⟨gL, 7, none⟩ = some (.int .i64 m.n) := cell_of_blk hiL
    have l8 : wL.cell? ⟨gL, 8, none⟩ = some (.int .i64 m.e) := cell_of_blk hiL
    have l9 : wL.cell? ⟨gL, 9, none⟩ = some (.int .i64 m.r) := cell_of_blk hiL
    have l10 : wL.cell? ⟨gL, 10, none⟩ = some (.slice A1 ls1 c1) := cell_of_blk hiL
    have l11 : wL.cell? ⟨gL, 11, none⟩ = some (.slice A2 lp1 c2) := cell_of_blk hiL
    clear hiL f0 f1 f2 f3 f4 f5 f6 f7 f8 f9 fa fb
    go_wp2_with fail
    refine hOWN.out.mono ?_
    rintro e wo ⟨B1, d1, B2, d2, rfl, hs, hp, hbo⟩
    obtain ⟨w3, hw3⟩ : ∃ w3, w3 = wo.alloc (.cells #[.int .i64 fr, .int .i64 dst, .int .i64 m.k, .int .i64 m.s, .int .i64 m.a, .int .i64 m.p, .int .i64 m.q, .int .i64 m.n, .int .i64 m.e, .int .i64 m.r, .slice B1 ls1 d1, .slice B2 lp1 d2] 36) := ⟨_, rfl⟩
    have hb3 : Below wo.heap.size wo w3 := by rw [hw3]; exact (Below.refl _ _).alloc (Nat.le_refl _) _
    have hr3 : w3.heap[wo.heap.size]? = some (.cells (rawZ ⟨⟨fr, dst, m⟩, .slice B1 m.set.length d1, .slice B2 m.prs.length d2⟩).toArray 36 (0, 0)) := by rw [hw3, HLS1.out.1, HLS1.out.2]; exact alloc_at wo _
    have HR3 := Aside0.mk (zs_C w3 ⟨⟨fr, dst, m⟩, .slice B1 m.set.length d1, .slice B2 m.prs.length d2⟩ rfl rfl hr3)
    have hbr3 := below_then HBL.out HBL.out.size (below_then hbo hbo.size hb3)
    have HO3 := Aside0.mk (HZZ.out.1.row.below hbr3)
    have HB3 := Aside0.mk (below_then HB.out HB.out.size hbr3)
    have HWO := Aside0.mk (And.intro hbo (And.intro hb3 (And.intro hs hp)))
    have HW3 := Aside0.mk hw3
    have hbs : w.heap.size ≤ w3.heap.size := HB3.out.size
    clear hb3 hr3 hbr3 hs hp hbo hw3 l0 l1 l2 l3 l4 l5 l6 l7 l8 l9 l10 l11
    go_wp2_with (rw [← HW3.out]; at_builtin; refine wpList_app_own flat_LR w.heap.size rfl _ _ 28 36 _ 128 rfl Try.underlying28 info_let rfl (by decide) (by decide) (.slice A k c) zs [⟨⟨fr, dst, m⟩, .slice B1 m.set.length d1, .slice B2 m.prs.length d2⟩] (some ⟨wo.heap.size, 0, none⟩) 1 1 rfl rfl HO3.out rfl HR3.out hbs (by have := HZZ.out.2.2; show (zs.length + 1) * 128 ≤ 140737488355328; omega) ?_; intro v4 w4 hv4 hg4 hat4; obtain ⟨A4, c4, rfl, _, _⟩ := hv4.reads; obtain ⟨ow4, hL4⟩ := HZZ.out.1.snoc HBL.out HWO.out.1 HWO.out.2.1 HB.out.size HWO.out.2.2.1 HWO.out.2.2.2 hv4 hg4 hat4; have HB4 := Aside0.mk (Below.ch HB3.out (Ch.of_grown (S := fun j => (Value.slice A k c).ownBlock = some j) hg4 (fun j hj => hj)) hbs (fun j hj => HO3.out.base_ j hj)); rw [show (zs ++ [(⟨⟨fr, dst, m⟩, .slice B1 m.set.length d1, .slice B2 m.prs.length d2⟩ : LetZ)]).length = k + 1 from (by rw [List.length_append, HZZ.out.2.2]; rfl)] at hL4 ⊢; have HL4 := Aside0.mk hL4; clear hv4 hg4 hat4 hL4)
    go_roundg (ls.length - (k + 1))
    case measure => omega
    case rel => exact ⟨k + 1, A4, c4, by omega, by go_num, rfl, ⟨_, ow4, HL4.out, by rw [List.map_append, HZZ.out.2.1, HT0.out]; rfl⟩, HB4⟩
end Go.Proofs.Ytkgbcoijkmlmnaa.K
