/- The statement MasterKeeps. WRITTEN BY wip/gen_y30.py. -/
import Derived.Test.YtbnhhlahbhjogaaY29
import Derived.Deep.CutRange
import Derived.Deep.CutBlock
import Derived.Deep.MidRow
import Derived.Deep.WholeRow
set_option linter.unusedVariables false
set_option linter.unusedSimpArgs false
set_option maxRecDepth 100000
namespace Go.Proofs.Ytbnhhlahbhjogaa.K
open Go.RowKit Go.Proofs.YtbnhhlahbhjogaaW.PrintWords Go.Proofs.YtbnhhlahbhjogaaW.PrintLast Go.Proofs.YtbnhhlahbhjogaaW.PrintMore Go.Proofs.Ytbnhhlahbhjogaa.U Go.Proofs.Ytbnhhlahbhjogaa.T

def arrI (n : Nat) (l : List Int) : List Value := (l ++ List.replicate (n - l.length) 0).map (Value.int .i64)
theorem arrI_get (n : Nat) (l : List Int) (k : Nat) (hk : k < l.length) : (arrI n l)[k]? = some (.int .i64 l[k]) := by
  unfold arrI
  rw [List.getElem?_map, List.getElem?_append_left hk, List.getElem?_eq_getElem hk]
  rfl
theorem arrI_set (n : Nat) (l : List Int) (k : Nat) (a : Int) (hk : k < l.length) : (arrI n l).set k (.int .i64 a) = arrI n (l.set k a) := by
  unfold arrI
  rw [← List.map_set, List.set_append_left _ _ hk, List.length_set]
theorem wpList_store_new {P : Program} {ops : Array Oper} {rest : List Oper} {op : Oper} {a : Act} {w : World} {Q : Exit → Act → World → Prop} (hgd : op.guard = none) (x y : Operand) (t : TypeId) (ho : op.op = .store t x y)
    (c c' : Array Value) (hx : a.eval x = .pointer (some ⟨w.heap.size, 0, none⟩)) (hy : a.eval y = .agg c')
    (hi : (P.info? t).map (·.size) = some c'.size) (hs : c.size = c'.size) (h1 : c'.all (·.oneCell') = true)
    (h : wpList P ops Q rest (a.put op.dst undef) (w.alloc (.cells c' t))) : wpList P ops Q (op :: rest) a (w.alloc (.cells c t)) :=
  wpList_plain hgd fun _ hK => by
    unfold Oper.wp execOp
    simp only [ho, hx, hy, Sem.run_bind, Sem.run_pure, Result.andThen_ok, run_storeAt_new w t c c' hi hs h1]
    exact hK _ _ h
theorem spot_none {w : World} {g o : Nat} {z : Option _} {v : Value} (h : w.cell? ⟨g, o, z⟩ = some v) : z = none := by
  cases z with
  | none => rfl
  | some s =>
    unfold World.cell? at h
    split at h
    · simp at h
    · cases h

/-- What stands while a master's acts are gone through. -/
structure KpW (W w : World) (gM g gW : Nat) (F Z : Nat → Prop) (c : CfgD) (m : MaS) (v : Value) (zs : List RecZ) (T : List Int) (box : List Value) : Prop where
  ma : MaR w gM F c m
  all : AllP w (gW + 1) v zs Z
  nZ : ∀ k, F k → ¬ Z k
  nV : ∀ k, F k → v.ownBlock ≠ some k
  nW : ¬ F gW
  nG : ¬ F g
  lo : ∀ k, F k → W.heap.size ≤ k
  hW : w.heap[gW]? = some (.cells (arrI 6 T).toArray 54 (0, 0))
  hg : w.heap[g]? = some (.cells box.toArray 28 (0, 0))
  lg : W.heap.size ≤ g
  lW : g < gW
  bel : Below W.heap.size W w
section
variable {W w w' : World} {gM g gW : Nat} {F Z S : Nat → Prop} {c : CfgD} {m m' : MaS} {v : Value} {zs : List RecZ} {T : List Int} {box : List Value}
theorem KpW.row (h : KpW W w gM g gW F Z c m v zs T box) : Own kRR 90 w (gW + 1) v zs := h.all.row
theorem KpW.gWlt (h : KpW W w gM g gW F Z c m v zs T box) : gW + 1 ≤ w.heap.size := blk_lt' h.hW
theorem KpW.below (h : KpW W w gM g gW F Z c m v zs T box) (hb : Below w.heap.size w w') : KpW W w' gM g gW F Z c m v zs T box :=
  ⟨h.ma.below hb, h.all.below hb, h.nZ, h.nV, h.nW, h.nG, h.lo, (hb.block gW (blk_lt' h.hW)).trans h.hW, (hb.block g (blk_lt' h.hg)).trans h.hg, h.lg, h.lW, below_then h.bel h.bel.size hb⟩
theorem KpW.keep (h : KpW W w gM g gW F Z c m v zs T box) (hc : Ch w w' F) : AllP w' (gW + 1) v zs Z ∧ w'.heap[gW]? = some (.cells (arrI 6 T).toArray 54 (0, 0)) ∧ w'.heap[g]? = some (.cells box.toArray 28 (0, 0)) ∧ Below W.heap.size W w' :=
  ⟨h.all.ch hc (fun k hz hf => h.nZ k hf hz) (fun k hk hf => h.nV k hf hk), hc.blk h.hW h.nW, hc.blk h.hg h.nG, Below.ch h.bel hc h.bel.size h.lo⟩
theorem KpW.call (h : KpW W w gM g gW F Z c m v zs T box) (hm : MaR w' gM F c m') (hc : Ch w w' F) : KpW W w' gM g gW F Z c m' v zs T box := by
  obtain ⟨h1, h2, h3, h4⟩ := h.keep hc
  exact ⟨hm, h1, h.nZ, h.nV, h.nW, h.nG, h.lo, h2, h3, h.lg, h.lW, h4⟩
theorem KpW.setT (h : KpW W w gM g gW F Z c m v zs T box) (s : Nat) (a : Int) (hs : s < T.length) : KpW W (w.setCell ⟨gW, s, none⟩ (.int .i64 a)) gM g gW F Z c m v zs (T.set s a) box := by
  have hc : Ch w (w.setCell ⟨gW, s, none⟩ (.int .i64 a)) (fun k => k = gW) := (Ch.refl w (fun k => k = gW)).setCell _ _ rfl
  have l1 := h.lg
  have l2 := h.lW
  refine ⟨h.ma.ch hc (fun k hk e => h.nW (e ▸ hk)), h.all.ch hc (fun k hz e => by have := h.all.lo k hz; omega) (fun k hk e => by have := h.all.row.base_ k hk; omega), h.nZ, h.nV, h.nW, h.nG, h.lo, ?_, hc.blk h.hg (by omega), h.lg, h.lW, Below.ch h.bel hc h.bel.size (fun k e => by omega)⟩
  rw [← arrI_set 6 T s a hs]
  exact setCell_blk h.hW _
theorem KpW.join {w1 : World} {B : Nat} {F2 : Nat → Prop} {r v1 : Value} {ys : List RecZ} {ow : Nat → Option Nat} (h : KpW W w gM g gW F Z c m v zs T box) (hm : MaR w' gM F2 c m') (hF : ∀ k, F2 k → F k ∨ w.heap.size ≤ k) (hFB : ∀ k, F2 k → k < B) (hB : w.heap.size ≤ B) (hr : RListP w' B r ys ow) (hc : Ch w w' F)
    (ho : Own kRR 90 w1 (gW + 1) v1 (zs ++ ys)) (hg : w'.grownBy w1 v.ownBlock) (hat : ∀ k, v1.ownBlock = some k → v.ownBlock = some k ∨ w'.heap.size ≤ k) : ∃ Z2, KpW W w1 gM g gW F2 Z2 c m' v1 (zs ++ ys) T box := by
  obtain ⟨h1, h2, h3, h4⟩ := h.keep hc
  have hvl : ∀ k, v.ownBlock = some k → k < w.heap.size := h.all.row.lt
  have hvb : ∀ k, v.ownBlock = some k → gW + 1 ≤ k := h.all.row.base_
  have hgW := h.gWlt
  have l1 := h.lg
  have l2 := h.lW
  have hg2 : Ch w' w1 (fun k => v.ownBlock = some k) := Ch.of_grown hg (fun k hk => hk)
  have hZl : ∀ k, Z k → k < w.heap.size := h.all.lt
  refine ⟨_, hm.ch hg2 (fun k hk e => ?_), h1.join hr (by omega) (fun k hk => by have := hZl k hk; omega) (fun k hk => .inl (by have := hvl k hk; omega)) ho hg hat, fun k hk hz => ?_, fun k hk e => ?_, fun hk => ?_, fun hk => ?_, fun k hk => ?_, hg2.blk h2 (fun e => by have := hvb _ e; omega), hg2.blk h3 (fun e => by have := hvb _ e; omega), l1, l2, Below.ch h4 hg2 h4.size (fun k e => by have := hvb _ e; omega)⟩
  · rcases hF k hk with h' | h'
    · exact h.nV k h' e
    · have := hvl k e; omega
  · rcases hz with hz | ⟨_, hz⟩
    · rcases hF k hk with h' | h'
      · exact h.nZ k h' hz
      · have := hZl k hz; omega
    · have := hFB k hk; omega
  · rcases hat k e with h' | h'
    · rcases hF k hk with h'' | h''
      · exact h.nV k h'' h'
      · have := hvl k h'; omega
    · have := hm.flt k hk; omega
  · rcases hF _ hk with h' | h'
    · exact h.nW h'
    · omega
  · rcases hF _ hk with h' | h'
    · exact h.nG h'
    · omega
  · rcases hF k hk with h' | h'
    · exact h.lo k h'
    · exact Nat.le_trans h.bel.size h'
end
set_option maxHeartbeats 12800000 in
theorem masterKeeps_in (j : JobD) (wk tr tmo : Int) (A1 A2 A3 A4 A5 : Option Addr) (c1 c2 c3 c4 c5 : Nat) (W : World) (hj : JobC W j A1 A2 A3 A4 A5 c1 c2 c3 c4 c5) (hgs : ∀ l ∈ j.splits, ∀ x ∈ l, GPair x) (AX : Option Addr) (cX : Nat) (xs : List MActD) (hxs : Kd.C kMAct W AX xs.length xs) (hgx : ∀ x ∈ xs, GMAct x) :
    Calls Try.prog 7 #[.agg #[.slice A1 j.splits.length c1, .int .i64 j.parts, .slice A2 j.map.length c2, .slice A3 j.combine.length c3, .slice A4 j.reduce.length c4, .int .i64 j.chunk, .int .i64 j.window, .int .i64 j.fuel, .slice A5 j.marks.length c5, .int .i64 wk, .int .i64 tr, .int .i64 tmo], .slice AX xs.length cX] W fun e w' => e = .returned (.bool true) ∧ Below W.heap.size W w' := by
  obtain ⟨N, hN⟩ : ∃ N, N = j.splits.length := ⟨_, rfl⟩
  obtain ⟨g, hg⟩ : ∃ g, g = W.heap.size := ⟨_, rfl⟩
  have hmx : N ≤ 9223372036854775807 := by rw [hN]; exact Kd.C_max hj.s
  obtain ⟨w0, hw0⟩ : ∃ w0, w0 = W.alloc (.cells #[.slice A1 N c1, .int .i64 j.parts, .slice A2 j.map.length c2, .slice A3 j.combine.length c3, .slice A4 j.reduce.length c4, .int .i64 j.chunk, .int .i64 j.window, .int .i64 j.fuel, .slice A5 j.marks.length c5, .int .i64 wk, .int .i64 tr, .int .i64 tmo] 28) := ⟨_, rfl⟩
  have hb0 : Below W.heap.size W w0 := by rw [hw0]; exact (Below.refl _ _).alloc (Nat.le_refl _) _
  have hg0 : w0.heap[g]? = some (.cells ([.slice A1 N c1, .int .i64 j.parts, .slice A2 j.map.length c2, .slice A3 j.combine.length c3, .slice A4 j.reduce.length c4, .int .i64 j.chunk, .int .i64 j.window, .int .i64 j.fuel, .slice A5 j.marks.length c5, .int .i64 wk, .int .i64 tr, .int .i64 tmo] : List Value).toArray 28 (0, 0)) := by rw [hw0, hg]; exact alloc_at W _
  have hgj := great22 j wk tr tmo A1 A2 A3 A4 A5 c1 c2 c3 c4 c5 none 0 [] AX cX xs 60 w0 (JobC.below hj hb0) hgs (C_zero _ _) (fun s hs => by cases hs) (Kd.C_below hxs hb0) hgx
  rw [← hN] at hgj
  have HGJ := Aside0.mk hgj
  have HJ := Aside0.mk hj
  obtain ⟨rc, hrc⟩ := bool_of (CfgMay ⟨j, wk, tr, tmo⟩)
  have HMC : Aside0 (∀ w', Below W.heap.size W w' → Calls Try.prog 10 #[.agg #[.slice A1 N c1, .int .i64 j.parts, .slice A2 j.map.length c2, .slice A3 j.combine.length c3, .slice A4 j.reduce.length c4, .int .i64 j.chunk, .int .i64 j.window, .int .i64 j.fuel, .slice A5 j.marks.length c5, .int .i64 wk, .int .i64 tr, .int .i64 tmo]] w' fun e w'' => e = .returned (.bool rc) ∧ Below w'.heap.size w' w'') := ⟨fun w' hw => by
    have h := cfgMay j wk tr tmo A1 A2 A3 A4 A5 c1 c2 c3 c4 c5 w' (JobC.below HJ.out hw) rc hrc
    rw [← hN] at h
    exact h⟩
  have HRC := Aside0.mk hrc
  have HN := Aside0.mk hN
  have HG := Aside0.mk hg
  have HW0 := Aside0.mk hw0
  have HB0 := Aside0.mk hb0
  have HG0 := Aside0.mk hg0
  have huc := Try.underlying28
  have huj := Try.underlying26
  have hul := Try.underlying51
  have hum := Try.underlying45
  have x0 : w0.cell? ⟨g, 0, none⟩ = some (.slice A1 N c1) := cell_of_blk hg0
  have x1 : w0.cell? ⟨g, 1, none⟩ = some (.int .i64 j.parts) := cell_of_blk hg0
  have x2 : w0.cell? ⟨g, 2, none⟩ = some (.slice A2 j.map.length c2) := cell_of_blk hg0
  have x3 : w0.cell? ⟨g, 3, none⟩ = some (.slice A3 j.combine.length c3) := cell_of_blk hg0
  have x4 : w0.cell? ⟨g, 4, none⟩ = some (.slice A4 j.reduce.length c4) := cell_of_blk hg0
  have x5 : w0.cell? ⟨g, 5, none⟩ = some (.int .i64 j.chunk) := cell_of_blk hg0
  have x6 : w0.cell? ⟨g, 6, none⟩ = some (.int .i64 j.window) := cell_of_blk hg0
  have x7 : w0.cell? ⟨g, 7, none⟩ = some (.int .i64 j.fuel) := cell_of_blk hg0
  have x8 : w0.cell? ⟨g, 8, none⟩ = some (.slice A5 j.marks.length c5) := cell_of_blk hg0
  have x9 : w0.cell? ⟨g, 9, none⟩ = some (.int .i64 wk) := cell_of_blk hg0
  have x10 : w0.cell? ⟨g, 10, none⟩ = some (.int .i64 tr) := cell_of_blk hg0
  have x11 : w0.cell? ⟨g, 11, none⟩ = some (.int .i64 tmo) := cell_of_blk hg0
  rw [← hN]
  clear hj hgs hN hg hw0 hb0 hg0 hgj hrc
  obtain ⟨nx, hnx⟩ : ∃ n, n = xs.length := ⟨_, rfl⟩
  have hmt : nx ≤ 9223372036854775807 := by rw [hnx]; exact Kd.C_max hxs
  have HNX := Aside0.mk hnx
  have HXS := Aside0.mk hxs
  rw [← hnx] at HGJ ⊢
  clear hnx hxs hgx
  go_enter Try.func7, Try.ntmps7
  go_upto_region 1 with (fail)
  rw [show W.alloc (.cells #[.slice A1 N c1, .int .i64 j.parts, .slice A2 j.map.length c2, .slice A3 j.combine.length c3, .slice A4 j.reduce.length c4, .int .i64 j.chunk, .int .i64 j.window, .int .i64 j.fuel, .slice A5 j.marks.length c5, .int .i64 wk, .int .i64 tr, .int .i64 tmo] 28) = w0 from HW0.out.symm, ← HG.out]
  go_wp2_with fail
  refine HGJ.out.mono ?_
  rintro e w1 ⟨⟨r, rfl, hgr⟩, hb1⟩
  have HGRT := Aside0.mk hgr
  clear hgr
  have HG1 := Aside0.mk ((hb1.block g (blk_lt' HG0.out)).trans HG0.out)
  have HB1 := Aside0.mk (below_then HB0.out HB0.out.size hb1)
  clear hb1 HGJ
  clear x0 x1 x2 x3 x4 x5 x6 x7 x8 x9 x10 x11
  have x0 : w1.cell? ⟨g, 0, none⟩ = some (.slice A1 N c1) := cell_of_blk HG1.out
  have x1 : w1.cell? ⟨g, 1, none⟩ = some (.int .i64 j.parts) := cell_of_blk HG1.out
  have x2 : w1.cell? ⟨g, 2, none⟩ = some (.slice A2 j.map.length c2) := cell_of_blk HG1.out
  have x3 : w1.cell? ⟨g, 3, none⟩ = some (.slice A3 j.combine.length c3) := cell_of_blk HG1.out
  have x4 : w1.cell? ⟨g, 4, none⟩ = some (.slice A4 j.reduce.length c4) := cell_of_blk HG1.out
  have x5 : w1.cell? ⟨g, 5, none⟩ = some (.int .i64 j.chunk) := cell_of_blk HG1.out
  have x6 : w1.cell? ⟨g, 6, none⟩ = some (.int .i64 j.window) := cell_of_blk HG1.out
  have x7 : w1.cell? ⟨g, 7, none⟩ = some (.int .i64 j.fuel) := cell_of_blk HG1.out
  have x8 : w1.cell? ⟨g, 8, none⟩ = some (.slice A5 j.marks.length c5) := cell_of_blk HG1.out
  have x9 : w1.cell? ⟨g, 9, none⟩ = some (.int .i64 wk) := cell_of_blk HG1.out
  have x10 : w1.cell? ⟨g, 10, none⟩ = some (.int .i64 tr) := cell_of_blk HG1.out
  have x11 : w1.cell? ⟨g, 11, none⟩ = some (.int .i64 tmo) := cell_of_blk HG1.out
  cases r
  case' true =>
    go_wp2_with fail
    refine (awake22 w1).mono ?_
    rintro e wz ⟨rfl, hbz⟩
    have HBZ := Aside0.mk (below_then HB1.out HB1.out.size hbz)
    clear hbz
    go_wp2_with fail
    go_ret
    exact ⟨rfl, HBZ.out⟩
  go_wp2_with fail
  refine (HMC.out w1 HB1.out).mono ?_
  rintro e w2 ⟨rfl, hb2⟩
  have HG2 := Aside0.mk ((hb2.block g (blk_lt' HG1.out)).trans HG1.out)
  have HB2 := Aside0.mk (below_then HB1.out HB1.out.size hb2)
  clear hb2 HMC
  clear x0 x1 x2 x3 x4 x5 x6 x7 x8 x9 x10 x11
  cases rc
  case' false =>
    go_wp2_with fail
    refine (awake22 w2).mono ?_
    rintro e wz ⟨rfl, hbz⟩
    have HBZ := Aside0.mk (below_then HB2.out HB2.out.size hbz)
    clear hbz
    go_wp2_with fail
    go_ret
    exact ⟨rfl, HBZ.out⟩
  have HMY : Aside0 (CfgMay ⟨j, wk, tr, tmo⟩) := ⟨HRC.out.1 rfl⟩
  obtain ⟨T, rfl⟩ : ∃ T : Nat, tmo = T := ⟨tmo.toNat, by have := HMY.out.timeout.1; dsimp only at this; omega⟩
  obtain ⟨c, hc⟩ : ∃ c : CfgD, c = ⟨j, wk, tr, T⟩ := ⟨_, rfl⟩
  have HNEW : Aside0 (Calls Try.prog 12 #[.agg #[.slice A1 N c1, .int .i64 j.parts, .slice A2 j.map.length c2, .slice A3 j.combine.length c3, .slice A4 j.reduce.length c4, .int .i64 j.chunk, .int .i64 j.window, .int .i64 j.fuel, .slice A5 j.marks.length c5, .int .i64 wk, .int .i64 tr, .int .i64 T], .slice none 0 0] w2 fun e w' => ∃ gM F, e = .returned (.tuple #[.pointer (some ⟨gM, 0, none⟩), .int .i64 0]) ∧ MaR w' gM F c (m0 c) ∧ (∀ i, F i → w2.heap.size ≤ i) ∧ Below w2.heap.size w2 w') := ⟨by
    have h := mNew ⟨j, wk, tr, T⟩ ⟨A1, A2, A3, A4, A5, c1, c2, c3, c4, c5⟩ [] none 0 w2 (JobC.below HJ.out HB2.out) HMY.out (C_zero _ _)
    dsimp only at h
    rw [← HN.out, ← hc] at h
    exact h⟩
  have HC := Aside0.mk hc
  clear hc
  have x0 : w2.cell? ⟨g, 0, none⟩ = some (.slice A1 N c1) := cell_of_blk HG2.out
  have x1 : w2.cell? ⟨g, 1, none⟩ = some (.int .i64 j.parts) := cell_of_blk HG2.out
  have x2 : w2.cell? ⟨g, 2, none⟩ = some (.slice A2 j.map.length c2) := cell_of_blk HG2.out
  have x3 : w2.cell? ⟨g, 3, none⟩ = some (.slice A3 j.combine.length c3) := cell_of_blk HG2.out
  have x4 : w2.cell? ⟨g, 4, none⟩ = some (.slice A4 j.reduce.length c4) := cell_of_blk HG2.out
  have x5 : w2.cell? ⟨g, 5, none⟩ = some (.int .i64 j.chunk) := cell_of_blk HG2.out
  have x6 : w2.cell? ⟨g, 6, none⟩ = some (.int .i64 j.window) := cell_of_blk HG2.out
  have x7 : w2.cell? ⟨g, 7, none⟩ = some (.int .i64 j.fuel) := cell_of_blk HG2.out
  have x8 : w2.cell? ⟨g, 8, none⟩ = some (.slice A5 j.marks.length c5) := cell_of_blk HG2.out
  have x9 : w2.cell? ⟨g, 9, none⟩ = some (.int .i64 wk) := cell_of_blk HG2.out
  have x10 : w2.cell? ⟨g, 10, none⟩ = some (.int .i64 tr) := cell_of_blk HG2.out
  have x11 : w2.cell? ⟨g, 11, none⟩ = some (.int .i64 T) := cell_of_blk HG2.out
  go_wp2_with fail
  refine HNEW.out.mono ?_
  rintro e w3 ⟨gM, F, rfl, hM3, hF3, hb3⟩
  have HM3 := Aside0.mk hM3
  have HG3 : Aside0 (w3.heap[g]? = some (.cells ([.slice A1 N c1, .int .i64 j.parts, .slice A2 j.map.length c2, .slice A3 j.combine.length c3, .slice A4 j.reduce.length c4, .int .i64 j.chunk, .int .i64 j.window, .int .i64 j.fuel, .slice A5 j.marks.length c5, .int .i64 wk, .int .i64 tr, .int .i64 T] : List Value).toArray 28 (0, 0))) := ⟨(hb3.block g (blk_lt' HG2.out)).trans HG2.out⟩
  have HB3 := Aside0.mk (below_then HB2.out HB2.out.size hb3)
  have HFG : Aside0 (¬ F g) := ⟨fun h => by have := hF3 g h; have := blk_lt' HG2.out; omega⟩
  have HFW : Aside0 (∀ i, F i → W.heap.size ≤ i) := ⟨fun i h => Nat.le_trans HB2.out.size (hF3 i h)⟩
  have HNC : Aside0 (N = c.job.splits.length) := ⟨by rw [HC.out]; exact HN.out⟩
  have HCW : Aside0 (c.workers = wk ∧ c.tries = tr ∧ c.timeout = T ∧ c.job = j) := ⟨by rw [HC.out]; exact ⟨rfl, rfl, rfl, rfl⟩⟩
  clear hM3 hF3 hb3 HNEW HRC HG0 HB0 HW0 HG1 HB1
  clear x0 x1 x2 x3 x4 x5 x6 x7 x8 x9 x10 x11
  have hua := Try.underlying70
  have HXL : Aside0 (nx ≤ 60) := ⟨by have := (HGRT.out trivial).2.2.1; omega⟩
  have hN6 : N ≤ 6 := by have := HMY.out.job.splits.2; have := HN.out; dsimp only at *; omega
  have htr1 : 1 ≤ tr := HMY.out.tries.1
  have htr3 : tr ≤ 3 := HMY.out.tries.2
  have HT1 : Aside0 (1 ≤ c.tries ∧ c.tries ≤ 3) := ⟨by rw [HCW.out.2.1]; exact ⟨htr1, htr3⟩⟩
  have HSPL : Aside0 (∀ i, (runM c xs i).1.sp.length = N) := ⟨fun i => by rw [runM_len, HNC.out]⟩
  obtain ⟨gW, hgW⟩ : ∃ gW, gW = w3.heap.size := ⟨_, rfl⟩
  obtain ⟨w4, hw4⟩ : ∃ w4, w4 = w3.alloc (.cells #[.int .i64 0, .int .i64 0, .int .i64 0, .int .i64 0, .int .i64 0, .int .i64 0] 54) := ⟨_, rfl⟩
  have HK4 : Aside0 (∃ (F' Z : Nat → Prop) (zs : List RecZ), KpW W w4 gM g gW F' Z c ((runM c xs 0).1) (.slice none 0 0) zs (List.replicate N 0) ([.slice A1 N c1, .int .i64 j.parts, .slice A2 j.map.length c2, .slice A3 j.combine.length c3, .slice A4 j.reduce.length c4, .int .i64 j.chunk, .int .i64 j.window, .int .i64 j.fuel, .slice A5 j.marks.length c5, .int .i64 wk, .int .i64 tr, .int .i64 T] : List Value) ∧ zs.map (·.x) = (runM c xs 0).2) := ⟨by
    refine ⟨F, fun _ => False, [], ?_, rfl⟩
    have hb4 : Below w3.heap.size w3 w4 := by rw [hw4]; exact (Below.refl _ _).alloc (Nat.le_refl _) _
    have hA : w4.heap[gW]? = some (.cells (arrI 6 (List.replicate N 0)).toArray 54 (0, 0)) := by
      have e : arrI 6 (List.replicate N 0) = [.int .i64 0, .int .i64 0, .int .i64 0, .int .i64 0, .int .i64 0, .int .i64 0] := by
        unfold arrI
        rw [List.length_replicate, List.replicate_append_replicate, show N + (6 - N) = 6 from by omega]
        rfl
      rw [e, hw4, hgW]
      exact alloc_at w3 _
    have hfl := HM3.out.flt
    have h1 := blk_lt' HG3.out
    have h2 := HB3.out.size
    have h3 := HG.out
    exact ⟨HM3.out.below hb4, AllP.nil _ _, fun _ _ h => h, (fun _ _ h => by cases h), (fun h => by have := hfl _ h; omega), HFG.out, HFW.out, hA, (hb4.block g h1).trans HG3.out, by omega, by omega, below_then HB3.out HB3.out.size hb4⟩⟩
  have HTW0 : Aside0 ((List.replicate N (0 : Int)).length = N ∧ ∀ s, s < N → (List.replicate N (0 : Int)).getD s 0 = (winV (runM c xs 0).1 s).1) := ⟨by
    refine ⟨List.length_replicate .., fun s hs => ?_⟩
    have hl := HSPL.out 0
    rw [winV_nat _ s (by rw [hl]; exact hs), List.getD_eq_getElem?_getD, List.getElem?_replicate, if_pos hs]
    have : ((runM c xs 0).1.sp.getD s zeroS).won = false := by
      show ((List.replicate c.job.splits.length zeroS).getD s zeroS).won = false
      rw [List.getD_eq_getElem?_getD, List.getElem?_replicate]
      split <;> rfl
    rw [this]
    rfl⟩
  have HW4 := Aside0.mk (And.intro hw4 hgW)
  clear hw4 hgW HM3 HB3 HG3 HFG HFW
  go_upto_region 8 with (fail)
  rw [show w3.alloc (.cells #[.int .i64 0, .int .i64 0, .int .i64 0, .int .i64 0, .int .i64 0, .int .i64 0] 54) = w4 from HW4.out.1.symm, ← HW4.out.2]
  go_wp2_with fail
  go_loopg [7, 9, 10, 11, 12, 13, 14, 15, 16, 17, 18, 19] nx (fun kq v7 v9 v10 v11 v12 v13 v14 v15 v16 v17 v18 v19 w' => ∃ (i : Nat) (A7 : Option Addr) (n7 l7 : Nat) (TL : List Int), i + kq = nx ∧ v11 = .int .i64 i ∧ v7 = .slice A7 l7 n7 ∧ v9 = .int .i64 (runM c xs i).1.st ∧ v10 = .int .i64 (runM c xs i).1.why ∧ Aside0 (∃ (F' Z : Nat → Prop) (zs : List RecZ), KpW W w' gM g gW F' Z c ((runM c xs i).1) (.slice A7 l7 n7) zs TL ([.slice A1 N c1, .int .i64 j.parts, .slice A2 j.map.length c2, .slice A3 j.combine.length c3, .slice A4 j.reduce.length c4, .int .i64 j.chunk, .int .i64 j.window, .int .i64 j.fuel, .slice A5 j.marks.length c5, .int .i64 wk, .int .i64 tr, .int .i64 T] : List Value) ∧ zs.map (·.x) = (runM c xs i).2) ∧ Aside0 (TL.length = N ∧ ∀ s, s < N → TL.getD s 0 = (winV (runM c xs i).1 s).1))
  case atStart => exact ⟨0, none, 0, 0, _, by omega, rfl, rfl, rfl, rfl, HK4, HTW0⟩
  case round =>
    obtain ⟨i, A7, n7, l7, TL, hi, rfl, rfl, rfl, rfl, HK, HTW⟩ := hrel
    by_cases hlt : i < nx
    case' neg =>
      obtain rfl : i = nx := by omega
      obtain ⟨F', Z, zs, hk, hzs⟩ := HK.out
      obtain ⟨mf, hmf⟩ : ∃ m, m = (runM c xs i).1 := ⟨_, rfl⟩
      have hkp := runM_kp c xs i
      have hspm := HSPL.out i
      rw [← hmf] at hk hkp hspm ⊢
      rw [← hzs] at hkp
      obtain ⟨A', n', e', hC'⟩ := hk.all.reads
      injection e' with e1 e2 e3
      subst e1
      subst e3
      obtain ⟨rs, hrs⟩ : ∃ rs, rs = zs.map (·.x) := ⟨_, rfl⟩
      have hrl : rs.length = l7 := by rw [hrs, List.length_map]; omega
      rw [← hrs] at hkp
      have hC2 : Kd.C kRec wr A7 rs.length rs := by rw [hrl, hrs]; rw [show zs.length = l7 from by omega] at hC'; exact hC'
      have HKF := Aside0.mk hk
      have HC2 := Aside0.mk hC2
      have HKP := Aside0.mk hkp
      have HSP := Aside0.mk hspm
      have HWF : Aside0 (∀ s, s < N → TL.getD s 0 = (winV mf s).1) := ⟨by rw [hmf]; exact HTW.out.2⟩
      have HNEW2 : Aside0 (Calls Try.prog 12 #[.agg #[.slice A1 N c1, .int .i64 j.parts, .slice A2 j.map.length c2, .slice A3 j.combine.length c3, .slice A4 j.reduce.length c4, .int .i64 j.chunk, .int .i64 j.window, .int .i64 j.fuel, .slice A5 j.marks.length c5, .int .i64 wk, .int .i64 tr, .int .i64 T], .slice A7 l7 n7] wr fun e w' => ∃ gN F, e = .returned (.tuple #[.pointer (some ⟨gN, 0, none⟩), .int .i64 0]) ∧ MaR w' gN F c (newF c rs) ∧ (∀ i, F i → wr.heap.size ≤ i) ∧ Below wr.heap.size wr w') := ⟨by
        have h := mNew ⟨j, wk, tr, T⟩ ⟨A1, A2, A3, A4, A5, c1, c2, c3, c4, c5⟩ rs A7 n7 wr (JobC.below HJ.out HKF.out.bel) HMY.out HC2.out
        dsimp only at h
        rw [← HN.out, ← HC.out, hrl] at h
        exact h⟩
      have x0 : wr.cell? ⟨g, 0, none⟩ = some (.slice A1 N c1) := cell_of_blk hk.hg
      have x1 : wr.cell? ⟨g, 1, none⟩ = some (.int .i64 j.parts) := cell_of_blk hk.hg
      have x2 : wr.cell? ⟨g, 2, none⟩ = some (.slice A2 j.map.length c2) := cell_of_blk hk.hg
      have x3 : wr.cell? ⟨g, 3, none⟩ = some (.slice A3 j.combine.length c3) := cell_of_blk hk.hg
      have x4 : wr.cell? ⟨g, 4, none⟩ = some (.slice A4 j.reduce.length c4) := cell_of_blk hk.hg
      have x5 : wr.cell? ⟨g, 5, none⟩ = some (.int .i64 j.chunk) := cell_of_blk hk.hg
      have x6 : wr.cell? ⟨g, 6, none⟩ = some (.int .i64 j.window) := cell_of_blk hk.hg
      have x7 : wr.cell? ⟨g, 7, none⟩ = some (.int .i64 j.fuel) := cell_of_blk hk.hg
      have x8 : wr.cell? ⟨g, 8, none⟩ = some (.slice A5 j.marks.length c5) := cell_of_blk hk.hg
      have x9 : wr.cell? ⟨g, 9, none⟩ = some (.int .i64 wk) := cell_of_blk hk.hg
      have x10 : wr.cell? ⟨g, 10, none⟩ = some (.int .i64 tr) := cell_of_blk hk.hg
      have x11 : wr.cell? ⟨g, 11, none⟩ = some (.int .i64 T) := cell_of_blk hk.hg
      clear hk hkp hspm e2 hC' hC2 hrl hmf hrs hzs
      go_wp2_with fail
      refine HNEW2.out.mono ?_
      rintro e w5 ⟨gN, FN, rfl, hM5, hF5, hb5⟩
      have HM5 := Aside0.mk hM5
      have HK5 := Aside0.mk (HKF.out.below hb5)
      have HST := Aside0.mk (rState hM5)
      obtain ⟨mq, hmq⟩ : ∃ m, m = newF c rs := ⟨_, rfl⟩
      rw [← hmq] at HM5 HST HKP
      clear hM5 hF5 hb5 hmq HNEW2
      clear x0 x1 x2 x3 x4 x5 x6 x7 x8 x9 x10 x11
      go_wp2_with fail
      refine HST.out.mono ?_
      rintro e w6 ⟨rfl, hb6⟩
      have HM6 := Aside0.mk (HM5.out.below hb6)
      have HK6 := Aside0.mk (HK5.out.below hb6)
      rw [HKP.out.like.st, HKP.out.like.why]
      clear hb6 HST
      go_wp2_with fail
      go_loopg [24, 25, 26] N (fun kq v24 v25 v26 w' => ∃ s : Nat, s + kq = N ∧ v24 = .int .i64 s ∧ w' = w6)
      case atStart => exact ⟨0, by omega, rfl, rfl⟩
      case round =>
        obtain ⟨s, hs, rfl, rfl⟩ := hrel
        have x0 : wr.cell? ⟨g, 0, none⟩ = some (.slice A1 N c1) := cell_of_blk HK6.out.hg
        by_cases hsN : s < N
        · have hsNI : (s : Int) < N := by omega
          have hs0 : (0 : Int) ≤ (s : Int) := by omega
          have hs6 : (s : Int) < 6 := by omega
          have HSL : Aside0 (s < TL.length) := ⟨by rw [HTW.out.1]; exact hsN⟩
          obtain ⟨t, ht⟩ : ∃ t, t = TL[s]'HSL.out := ⟨_, rfl⟩
          have y1 : wr.cell? ⟨gW, s, none⟩ = some (.int .i64 t) := by rw [cell_of_blk HK6.out.hW, arrI_get _ _ _ HSL.out, ht]
          have hPA : (⟨gW, 0, none⟩ : Addr).add s = ⟨gW, s, none⟩ := by rw [add_plain]
          have HWI : Aside0 (Calls Try.prog 33 #[.pointer (some ⟨gN, 0, none⟩), .int .i64 s] wr fun e w' => e = .returned (.tuple #[.int .i64 t, .bool (winV mq s).2]) ∧ w' = wr) := ⟨by
            have h := rWinner HM6.out (s : Int)
            rw [show (winV mq s).1 = t from by
              rw [winV_like HKP.out.like, ht, ← HWF.out s hsN, List.getD_eq_getElem?_getD, List.getElem?_eq_getElem HSL.out]
              rfl] at h
            exact h⟩
          have htt : (t != t) = false := by simp
          clear ht
          go_wp2_with fail
          refine HWI.out.mono ?_
          rintro e wr ⟨rfl, rfl⟩
          go_wp2_with fail
          go_roundg (N - (s + 1))
          case measure => omega
          case rel => exact ⟨s + 1, by omega, by go_num, rfl⟩
        · obtain rfl : s = N := by omega
          have hltI : ¬ (s : Int) < s := by omega
          have HWS := Aside0.mk (rWinners HM6.out)
          clear HWF
          go_wp2_with fail
          refine HWS.out.mono ?_
          rintro e w7 ⟨v7, rfl, hO7, hb7⟩
          have HK7 := Aside0.mk (HK6.out.below hb7)
          have HM7 := Aside0.mk (HM6.out.below hb7)
          have HWS2 := Aside0.mk (rWinners HK7.out.ma)
          have hwl := winners_like HKP.out.like
          obtain ⟨WL, hWL⟩ : ∃ l, l = winners mf := ⟨_, rfl⟩
          rw [hwl, ← hWL] at hO7
          rw [← hWL] at HWS2
          have HO7 := Aside0.mk hO7
          have HWL : Aside0 (WL.length ≤ 6) := ⟨by
            have h := winners_len mf
            rw [← hWL, HSP.out] at h
            omega⟩
          obtain ⟨AW, nW, rfl, _, _⟩ := hO7.reads
          clear hO7 hb7 HWS hwl hWL
          go_wp2_with fail
          refine HWS2.out.mono ?_
          rintro e w8 ⟨v8, rfl, hO8, hb8⟩
          obtain ⟨AV, nV, rfl, _, hC8⟩ := hO8.reads
          have hC7 : Kd.C kI w8 AW WL.length WL := by
            obtain ⟨A', n', e', _, hC⟩ := (HO7.out.below hb8).reads
            injection e' with e1 e2 e3
            rw [e1]
            exact hC
          have HSI := Aside0.mk (sameInts AW nW WL AV nV WL w8 hC7 hC8 true (by simp))
          have HK8 := Aside0.mk (HK7.out.below hb8)
          have HM8 := Aside0.mk (HM7.out.below hb8)
          clear hO8 hb8 hC8 hC7 HWS2
          go_wp2_with fail
          refine HSI.out.mono ?_
          rintro e w9 ⟨rfl, hb9⟩
          have HK9 := Aside0.mk (HK8.out.below hb9)
          have HNW : Aside0 (Calls Try.prog 22 #[.pointer (some ⟨gN, 0, none⟩)] w9 fun e w' => e = .returned (.int .i64 0) ∧ w' = w9) := ⟨by
            have h := rNow (HM8.out.below hb9)
            rw [HKP.out.now] at h
            exact h⟩
          have HAW := Aside0.mk (awake22 w9)
          clear hb9 HSI
          go_wp2_with fail
          refine HNW.out.mono ?_
          rintro e w9 ⟨rfl, rfl⟩
          go_wp2_with fail
          refine HAW.out.mono ?_
          rintro e wa ⟨rfl, hba⟩
          have HBA := Aside0.mk (below_then HK9.out.bel HK9.out.bel.size hba)
          clear hba
          go_wp2_with fail
          go_ret
          exact ⟨rfl, HBA.out⟩
    have hltI : (i : Int) < nx := by omega
    have hi0 : (0 : Int) ≤ (i : Int) := by omega
    obtain ⟨F', Z, zs, hk, hzs⟩ := HK.out
    have hlt' : i < xs.length := by rw [← HNX.out]; exact hlt
    obtain ⟨ad, B1, B2, d1, d2, rfl, hm1, hc⟩ := at_mact HXS.out i hlt'
    obtain ⟨x, hx⟩ : ∃ x, x = xs[i]'hlt' := ⟨_, rfl⟩
    have hst := runM_succ c xs i hlt'
    rw [← hx] at hm1 hc hst
    have hkp := runM_kp c xs i
    have hbb := runM_b c xs HT1.out.1 HT1.out.2 i
    have hks := kept_step c (runM c xs i).1 x
    have hkp2 := hkp.step x
    have hrl := runM_recs c xs i
    obtain ⟨mi, hmi⟩ : ∃ mi, mi = (runM c xs i).1 := ⟨_, rfl⟩
    obtain ⟨mn, hmn⟩ : ∃ mn, mn = (stepM c mi x).1 := ⟨_, rfl⟩
    have HMN : Aside0 ((runM c xs (i + 1)).1 = mn) := ⟨by rw [hst, hmn, hmi]⟩
    have HRN : Aside0 ((runM c xs (i + 1)).2 = (runM c xs i).2 ++ (stepM c mi x).2) := ⟨by rw [hst, hmi]⟩
    rw [← hmi] at hk hkp hbb hks hkp2 ⊢
    rw [← hmn] at hks hkp2
    have hwn : ∀ s, s < N → TL.getD s 0 = (winV mi s).1 := by rw [hmi]; exact HTW.out.2
    have hspm : mi.sp.length = N := by rw [hmi]; exact HSPL.out i
    have hspn : mn.sp.length = N := by rw [hks.len, hspm]
    obtain ⟨op, fr, m⟩ := x
    have hm1 : MsgC W m B1 B2 d1 d2 := hm1
    have hcw : ∀ j u, (rawL ⟨op, fr, m⟩ (.slice B1 m.set.length d1) (.slice B2 m.prs.length d2))[j]? = some u → wr.cell? (ad.add (i * 12 + j)) = some u := fun j u hu => (hk.bel.cell (World.block_lt_of_cell? _ _ (hc j u hu))).trans (hc j u hu)
    have hcells := cell_off hcw
    have hcell0 := hcw 0 _ rfl
    rw [Nat.add_zero] at hcell0
    obtain ⟨P, hP⟩ : ∃ P, ad.add (i * 12) = P := ⟨_, rfl⟩
    rw [hP] at hcells hcell0
    obtain ⟨g0, o0, z0⟩ := P
    obtain rfl := spot_none hcell0
    obtain ⟨ls, hls⟩ : ∃ n, n = m.set.length := ⟨_, rfl⟩
    obtain ⟨lp, hlp⟩ : ∃ n, n = m.prs.length := ⟨_, rfl⟩
    have HRG : Aside0 (wr.rangeAt g0 o0 [.int .i64 op, .int .i64 fr, .int .i64 m.k, .int .i64 m.s, .int .i64 m.a, .int .i64 m.p, .int .i64 m.q, .int .i64 m.n, .int .i64 m.e, .int .i64 m.r, .slice B1 ls d1, .slice B2 lp d2]) := ⟨fun j v hv => by
      rw [hls, hlp] at hv
      cases j with
      | zero =>
        obtain rfl : Value.int .i64 op = v := Option.some.inj hv
        exact hcell0
      | succ j => exact hcells j v hv⟩
    obtain ⟨gX, hgX⟩ : ∃ g, g = wr.heap.size := ⟨_, rfl⟩
    obtain ⟨w6, hw6⟩ : ∃ w', w' = wr.alloc (.cells #[.int .i64 op, .int .i64 fr, .int .i64 m.k, .int .i64 m.s, .int .i64 m.a, .int .i64 m.p, .int .i64 m.q, .int .i64 m.n, .int .i64 m.e, .int .i64 m.r, .slice B1 ls d1, .slice B2 lp d2] 70) := ⟨_, rfl⟩
    have hb6 : Below wr.heap.size wr w6 := by rw [hw6]; exact (Below.refl _ _).alloc (Nat.le_refl _) _
    have hx6 : w6.heap[gX]? = some (.cells ([.int .i64 op, .int .i64 fr, .int .i64 m.k, .int .i64 m.s, .int .i64 m.a, .int .i64 m.p, .int .i64 m.q, .int .i64 m.n, .int .i64 m.e, .int .i64 m.r, .slice B1 ls d1, .slice B2 lp d2] : List Value).toArray 70 (0, 0)) := by rw [hw6, hgX]; exact alloc_at wr _
    have hk6 := hk.below hb6
    have HK6 := Aside0.mk hk6
    have HZS := Aside0.mk hzs
    have HX6 := Aside0.mk hx6
    have HMI := Aside0.mk hmi
    have HMNX := Aside0.mk hmn
    have HKP := Aside0.mk hkp
    have HKP2 := Aside0.mk hkp2
    have HKS := Aside0.mk hks
    have HB := Aside0.mk hbb
    have HWN := Aside0.mk hwn
    have HSP := Aside0.mk (And.intro hspm hspn)
    have HM1 := Aside0.mk hm1
    have HLS := Aside0.mk (And.intro hls hlp)
    have HXE := Aside0.mk hx
    have HRL := Aside0.mk hrl
    have HW6 := Aside0.mk (And.intro hw6 hgX)
    have f0 : w6.cell? ⟨gX, 0, none⟩ = some (.int .i64 op) := cell_of_blk hx6
    clear hk hzs hst hkp hbb hks hkp2 hmi hmn hwn hspm hspn hm1 hc hx hcw hcells hcell0 hls hlp hgX hw6 hb6 hx6 hk6 HK hrl
    have hone : (#[.int .i64 op, .int .i64 fr, .int .i64 m.k, .int .i64 m.s, .int .i64 m.a, .int .i64 m.p, .int .i64 m.q, .int .i64 m.n, .int .i64 m.e, .int .i64 m.r, .slice B1 ls d1, .slice B2 lp d2] : Array Value).all (·.oneCell') = true := all_oneCell_toArray (cs := [.int .i64 op, .int .i64 fr, .int .i64 m.k, .int .i64 m.s, .int .i64 m.a, .int .i64 m.p, .int .i64 m.q, .int .i64 m.n, .int .i64 m.e, .int .i64 m.r, .slice B1 ls d1, .slice B2 lp d2]) (by simp [Value.oneCell'])
    go_upto_region 13 with (first
      | (refine wpList_load_mid rfl 70 (.tmp 55) rfl g0 o0 rfl _ _ HRG.out hua rfl (by kernel_rfl) ?_)
      | (refine wpList_store_new rfl (.tmp 12) (.tmp 56) 70 rfl #[.int .i64 0, .int .i64 0, .int .i64 0, .int .i64 0, .int .i64 0, .int .i64 0, .int .i64 0, .int .i64 0, .int .i64 0, .int .i64 0, .slice none 0 0, .slice none 0 0] #[.int .i64 op, .int .i64 fr, .int .i64 m.k, .int .i64 m.s, .int .i64 m.a, .int .i64 m.p, .int .i64 m.q, .int .i64 m.n, .int .i64 m.e, .int .i64 m.r, .slice B1 ls d1, .slice B2 lp d2] rfl rfl (by kernel_rfl) rfl hone ?_))
    rw [← HW6.out.1, ← HW6.out.2]
    clear HW6 hone HRG
    go_upto_block 2 with (fail)
    go_cut [7, 13, 14] from 47 to 137 (fun v7 v13 v14 wx => ∃ (A7 : Option Addr) (n7 l7 : Nat), v7 = .slice A7 l7 n7 ∧ Aside0 (∃ (F' Z : Nat → Prop) (zs : List RecZ), KpW W wx gM g gW F' Z c (mn) (.slice A7 l7 n7) zs TL ([.slice A1 N c1, .int .i64 j.parts, .slice A2 j.map.length c2, .slice A3 j.combine.length c3, .slice A4 j.reduce.length c4, .int .i64 j.chunk, .int .i64 j.window, .int .i64 j.fuel, .slice A5 j.marks.length c5, .int .i64 wk, .int .i64 tr, .int .i64 T] : List Value) ∧ zs.map (·.x) = (runM c xs (i + 1)).2))
    case first =>
      by_cases ho0 : op = 0
      · have HE : Aside0 (stepM c mi ⟨op, fr, m⟩ = ({ mi with now := min (mi.now + 1) 1099511627776 }, [])) := ⟨by unfold stepM; rw [if_pos ho0]⟩
        subst ho0
        have hT := rTick HK6.out.ma HB.out.n0 HB.out.n1
        have HT := Aside0.mk hT
        clear hT
        go_wp2_with fail
        refine HT.out.mono ?_
        rintro e w7 ⟨rfl, hM7, hc7⟩
        have HEND : Aside0 (∃ (F' Z : Nat → Prop) (zs : List RecZ), KpW W w7 gM g gW F' Z c (mn) (.slice A7 l7 n7) zs TL ([.slice A1 N c1, .int .i64 j.parts, .slice A2 j.map.length c2, .slice A3 j.combine.length c3, .slice A4 j.reduce.length c4, .int .i64 j.chunk, .int .i64 j.window, .int .i64 j.fuel, .slice A5 j.marks.length c5, .int .i64 wk, .int .i64 tr, .int .i64 T] : List Value) ∧ zs.map (·.x) = (runM c xs (i + 1)).2) := ⟨F', Z, zs, by
          have h := HK6.out.call hM7 hc7
          rw [HMNX.out, HE.out]
          exact h, by rw [HRN.out, HE.out, HZS.out]; exact (List.append_nil _).symm⟩
        clear hM7 hc7
        go_wp2_with fail
        go_meet
        exact ⟨_, _, _, rfl, HEND⟩
      by_cases ho1 : op = 1
      · have HE : Aside0 (stepM c mi ⟨op, fr, m⟩ = ((wakeF c mi).1, [])) := ⟨by unfold stepM; rw [if_neg ho0, if_pos ho1]⟩
        subst ho1
        clear ho0
        have hT := rWake HK6.out.ma (i : Int) HB.out (by have := HXL.out; omega)
        have HT := Aside0.mk hT
        clear hT
        go_wp2_with fail
        refine HT.out.mono ?_
        rintro e w7 ⟨v, rfl, hM7, -, hc7⟩
        have HEND : Aside0 (∃ (F' Z : Nat → Prop) (zs : List RecZ), KpW W w7 gM g gW F' Z c (mn) (.slice A7 l7 n7) zs TL ([.slice A1 N c1, .int .i64 j.parts, .slice A2 j.map.length c2, .slice A3 j.combine.length c3, .slice A4 j.reduce.length c4, .int .i64 j.chunk, .int .i64 j.window, .int .i64 j.fuel, .slice A5 j.marks.length c5, .int .i64 wk, .int .i64 tr, .int .i64 T] : List Value) ∧ zs.map (·.x) = (runM c xs (i + 1)).2) := ⟨F', Z, zs, by
          have h := HK6.out.call hM7 hc7
          rw [HMNX.out, HE.out]
          exact h, by rw [HRN.out, HE.out, HZS.out]; exact (List.append_nil _).symm⟩
        clear hM7 hc7
        go_wp2_with fail
        go_meet
        exact ⟨_, _, _, rfl, HEND⟩
      by_cases ho2 : op = 2
      · have HE : Aside0 (stepM c mi ⟨op, fr, m⟩ = ((hearF c mi fr m).1, (hearF c mi fr m).2.2)) := ⟨by unfold stepM; rw [if_neg ho0, if_neg ho1, if_pos ho2]⟩
        subst ho2
        clear ho0 ho1
        have hT := rHear HK6.out.ma fr m B1 B2 d1 d2 (fun w' hc => HM1.out.below (Below.ch HK6.out.bel hc HK6.out.bel.size HK6.out.lo)) HB.out.r0 (by have := HB.out.r1; have := HXL.out; omega)
        unfold msgV at hT
        rw [← HLS.out.1, ← HLS.out.2] at hT
        have HT := Aside0.mk hT
        clear hT
        obtain ⟨f1, f2, f3, f4, f5, f6, f7, f8, f9, f10, f11⟩ : w6.cell? ⟨gX, 1, none⟩ = some (.int .i64 fr) ∧ w6.cell? ⟨gX, 2, none⟩ = some (.int .i64 m.k) ∧ w6.cell? ⟨gX, 3, none⟩ = some (.int .i64 m.s) ∧ w6.cell? ⟨gX, 4, none⟩ = some (.int .i64 m.a) ∧ w6.cell? ⟨gX, 5, none⟩ = some (.int .i64 m.p) ∧ w6.cell? ⟨gX, 6, none⟩ = some (.int .i64 m.q) ∧ w6.cell? ⟨gX, 7, none⟩ = some (.int .i64 m.n) ∧ w6.cell? ⟨gX, 8, none⟩ = some (.int .i64 m.e) ∧ w6.cell? ⟨gX, 9, none⟩ = some (.int .i64 m.r) ∧ w6.cell? ⟨gX, 10, none⟩ = some (.slice B1 ls d1) ∧ w6.cell? ⟨gX, 11, none⟩ = some (.slice B2 lp d2) := ⟨cell_of_blk HX6.out, cell_of_blk HX6.out, cell_of_blk HX6.out, cell_of_blk HX6.out, cell_of_blk HX6.out, cell_of_blk HX6.out, cell_of_blk HX6.out, cell_of_blk HX6.out, cell_of_blk HX6.out, cell_of_blk HX6.out, cell_of_blk HX6.out⟩
        go_wp2_with fail
        refine HT.out.mono ?_
        rintro e w7 ⟨r1, r2, rfl, hP⟩
        have HRN1 := Aside0.mk (hear_recs c mi fr m)
        obtain ⟨rs, hrs⟩ : ∃ rs, rs = (hearF c mi fr m).2.2 := ⟨_, rfl⟩
        rw [← hrs] at hP HRN1
        obtain ⟨F2, B, AL, nL, AR, nR, rfl, rfl, -, -, hM7, hF7, hFB, hB7, -, ⟨ys, ow, hR7, hys⟩, hc7⟩ := hP.parts
        have hk7 := HK6.out.keep hc7
        obtain ⟨A', n', e', -, hC'⟩ := hR7.row.reads
        have hyl : ys.length = rs.length := by rw [← hys, List.length_map]
        rw [hyl] at e' hC'
        injection e' with e1 e2 e3
        subst e1
        subst e3
        have HC7 := Aside0.mk hC'
        have HK7 := Aside0.mk hk7
        have HP7 := Aside0.mk (And.intro hM7 (And.intro hF7 (And.intro hFB (And.intro hB7 (And.intro hR7 hc7)))))
        have HYS := Aside0.mk (And.intro hys (And.intro hyl hrs))
        have hown := hk7.1.row
        have hzl : zs.length = l7 := by
          obtain ⟨_, _, e, _, _⟩ := hown.reads
          injection e with _ e _
          omega
        have hl60 : (zs.length + ys.length) * 88 ≤ 140737488355328 := by
          have h1 : zs.length = (runM c xs i).2.length := by rw [← HZS.out, List.length_map]
          have h2 := HRL.out
          have h3 := HXL.out
          have h4 := HRN1.out
          omega
        have HOWN := Aside0.mk hown
        have HL60 := Aside0.mk hl60
        clear hP hM7 hF7 hFB hB7 hR7 hc7 hk7 hC' hys hyl hrs hown hzl hl60 f0 f1 f2 f3 f4 f5 f6 f7 f8 f9 f10 f11
        go_wp2_with (at_builtin; refine wpList_app_own flat_RR (gW + 1) rfl _ _ 40 90 _ 88 rfl Try.underlying40 info_rec rfl (by decide) (by decide) (.slice A7 l7 n7) zs ys AR rs.length nR rfl rfl HOWN.out HYS.out.2.1.symm (by rw [HYS.out.2.1]; exact HC7.out) (blk_lt' HK7.out.2.1) HL60.out ?_; intro v1 w8 hv1 hg1 hat1; have HK8 := Aside0.mk (HK6.out.join HP7.out.1 HP7.out.2.1 HP7.out.2.2.1 HP7.out.2.2.2.1 HP7.out.2.2.2.2.1 HP7.out.2.2.2.2.2 hv1 hg1 hat1); obtain ⟨A8, n8, rfl, _, _⟩ := hv1.reads; clear hv1 hg1 hat1)
        go_meet
        refine ⟨A8, n8, _, rfl, ⟨?_⟩⟩
        obtain ⟨Z2, h8⟩ := HK8.out
        refine ⟨F2, Z2, zs ++ ys, ?_, ?_⟩
        · rw [HMNX.out, HE.out, ← List.length_append]
          exact h8
        · rw [HRN.out, HE.out, List.map_append, HZS.out, HYS.out.1, HYS.out.2.2]
      have hb0 : (op == 0) = false := beq_eq_false_iff_ne.2 ho0
      have hb1 : (op == 1) = false := beq_eq_false_iff_ne.2 ho1
      have hb2 : (op == 2) = false := beq_eq_false_iff_ne.2 ho2
      have HE : Aside0 (stepM c mi ⟨op, fr, m⟩ = (mi, [])) := ⟨by unfold stepM; rw [if_neg ho0, if_neg ho1, if_neg ho2]⟩
      clear ho0 ho1 ho2
      have HEND : Aside0 (∃ (F' Z : Nat → Prop) (zs : List RecZ), KpW W w6 gM g gW F' Z c (mn) (.slice A7 l7 n7) zs TL ([.slice A1 N c1, .int .i64 j.parts, .slice A2 j.map.length c2, .slice A3 j.combine.length c3, .slice A4 j.reduce.length c4, .int .i64 j.chunk, .int .i64 j.window, .int .i64 j.fuel, .slice A5 j.marks.length c5, .int .i64 wk, .int .i64 tr, .int .i64 T] : List Value) ∧ zs.map (·.x) = (runM c xs (i + 1)).2) := ⟨F', Z, zs, by
        rw [HMNX.out, HE.out]
        exact HK6.out, by rw [HRN.out, HE.out, HZS.out]; exact (List.append_nil _).symm⟩
      go_wp2_with fail
      go_meet
      exact ⟨_, _, _, rfl, HEND⟩
    case rest =>
      obtain ⟨A8, n8, l8, rfl, HKC⟩ := hcut
      clear HK6 HX6 f0 HM1 HLS HZS HB
      obtain ⟨F2, Z2, zs2, hk, hz2⟩ := HKC.out
      have HKW := Aside0.mk hk
      have HZ2 := Aside0.mk hz2
      have HST := Aside0.mk (rState hk.ma)
      clear hk hz2 HKC
      go_wp2_with fail
      refine HST.out.mono ?_
      rintro e w7 ⟨rfl, hb7⟩
      have HK7 := Aside0.mk (HKW.out.below hb7)
      clear hb7 HST HKW
      obtain ⟨s0, hs0⟩ : ∃ s, s = mi.st := ⟨_, rfl⟩
      obtain ⟨y0, hy0⟩ : ∃ s, s = mi.why := ⟨_, rfl⟩
      obtain ⟨s1, hs1⟩ : ∃ s, s = mn.st := ⟨_, rfl⟩
      obtain ⟨y1, hy1⟩ : ∃ s, s = mn.why := ⟨_, rfl⟩
      have hkk : s0 ≠ 0 → s1 = s0 ∧ y1 = y0 := by rw [hs0, hs1, hy0, hy1]; exact HKS.out.st
      rw [← hs0, ← hy0, ← hs1, ← hy1]
      have HS1 : Aside0 ((runM c xs (i + 1)).1.st = s1 ∧ (runM c xs (i + 1)).1.why = y1) := ⟨by rw [HMN.out]; exact ⟨hs1.symm, hy1.symm⟩⟩
      clear hs0 hy0 hs1 hy1
      go_upto_region 22 with (fail)
      go_cut [97] from 86 to 97 (fun v97 wx => v97 = .bool false ∧ wx = w7)
      case first =>
        by_cases hz : s0 = 0
        · subst hz
          go_wp2_with fail
          go_meet
          exact ⟨rfl, rfl⟩
        · obtain ⟨rfl, rfl⟩ := hkk hz
          have hzb : (s1 != 0) = true := by simpa using hz
          have hq1 : (s1 != s1) = false := by simp
          have hq2 : (y1 != y1) = false := by simp
          go_wp2_with fail
          go_meet
          exact ⟨rfl, rfl⟩
      case rest =>
        obtain ⟨rfl, rfl⟩ := hcut
        go_wp2_with fail
        go_loopg [17, 18, 19] N (fun kq v17 v18 v19 w' => ∃ (s : Nat) (T2 : List Int), s + kq = N ∧ v17 = .int .i64 s ∧ Aside0 (KpW W w' gM g gW F2 Z2 c (mn) (.slice A8 l8 n8) zs2 T2 ([.slice A1 N c1, .int .i64 j.parts, .slice A2 j.map.length c2, .slice A3 j.combine.length c3, .slice A4 j.reduce.length c4, .int .i64 j.chunk, .int .i64 j.window, .int .i64 j.fuel, .slice A5 j.marks.length c5, .int .i64 wk, .int .i64 tr, .int .i64 T] : List Value)) ∧ Aside0 (T2.length = N ∧ ∀ q, q < N → T2.getD q 0 = if q < s then (winV mn q).1 else (winV mi q).1))
        case atStart => exact ⟨0, TL, by omega, rfl, HK7, ⟨⟨HTW.out.1, fun q hq => by rw [if_neg (by omega)]; exact HWN.out q hq⟩⟩⟩
        case round =>
          obtain ⟨s, T2, hs, rfl, HKR, HT2⟩ := hrel
          have x0 : wr.cell? ⟨g, 0, none⟩ = some (.slice A1 N c1) := cell_of_blk HKR.out.hg
          by_cases hsN : s < N
          · have hsNI : (s : Int) < N := by omega
            have hs0 : (0 : Int) ≤ (s : Int) := by omega
            have hs6 : (s : Int) < 6 := by omega
            have HSL : Aside0 (s < T2.length) := ⟨by rw [HT2.out.1]; exact hsN⟩
            obtain ⟨t, ht⟩ : ∃ t, t = T2[s]'HSL.out := ⟨_, rfl⟩
            have HTT : Aside0 (t = (winV mi s).1) := ⟨by
              have := HT2.out.2 s hsN
              rw [if_neg (by omega), List.getD_eq_getElem?_getD, List.getElem?_eq_getElem HSL.out] at this
              rw [ht]
              exact this⟩
            have y1 : wr.cell? ⟨gW, s, none⟩ = some (.int .i64 t) := by rw [cell_of_blk HKR.out.hW, arrI_get _ _ _ HSL.out, ht]
            have yz : wr.frozen? ⟨gW, s, none⟩ = false := frozen_of_blk HKR.out.hW
            have hPA : (⟨gW, 0, none⟩ : Addr).add s = ⟨gW, s, none⟩ := by rw [add_plain]
            have x10 : wr.cell? ⟨g, 10, none⟩ = some (.int .i64 tr) := cell_of_blk HKR.out.hg
            obtain ⟨a, ha⟩ : ∃ a, a = (winV mn s).1 := ⟨_, rfl⟩
            obtain ⟨b, hb⟩ : ∃ b, b = (winV mn s).2 := ⟨_, rfl⟩
            have hWI := rWinner HKR.out.ma (s : Int)
            rw [← ha, ← hb] at hWI
            have hmost : a ≤ tr := by
              rw [ha, ← HCW.out.2.1]
              exact winV_most HKP2.out s (by rw [HSP.out.2]; exact hsN) HT1.out.1
            have hstay : 0 < t → a = t ∧ b = true := fun hp => by
              have h := winV_stays HKS.out s (by rw [HSP.out.1]; exact hsN) (by rw [← HTT.out]; exact hp)
              rw [ha, hb, h, HTT.out]
              exact ⟨rfl, rfl⟩
            have hnm : decide (tr < a) = false := decide_eq_false (by omega)
            have hnm2 : ¬ tr < a := by omega
            have HA := Aside0.mk ha
            have HWI := Aside0.mk hWI
            have HSET : Aside0 (∀ w8, w8 = wr.setCell ⟨gW, s, none⟩ (.int .i64 a) → Aside0 (KpW W w8 gM g gW F2 Z2 c (mn) (.slice A8 l8 n8) zs2 (T2.set s a) ([.slice A1 N c1, .int .i64 j.parts, .slice A2 j.map.length c2, .slice A3 j.combine.length c3, .slice A4 j.reduce.length c4, .int .i64 j.chunk, .int .i64 j.window, .int .i64 j.fuel, .slice A5 j.marks.length c5, .int .i64 wk, .int .i64 tr, .int .i64 T] : List Value)) ∧ Aside0 ((T2.set s a).length = N ∧ ∀ q, q < N → (T2.set s a).getD q 0 = if q < s + 1 then (winV mn q).1 else (winV mi q).1)) := ⟨fun w8 h8 => by
              refine ⟨⟨by rw [h8]; exact HKR.out.setT s a HSL.out⟩, ⟨by rw [List.length_set]; exact HT2.out.1, fun q hq => ?_⟩⟩
              rw [List.getD_eq_getElem?_getD]
              by_cases hqs : q = s
              · subst hqs
                rw [List.getElem?_set_self HSL.out, if_pos (by omega)]
                exact HA.out
              · rw [List.getElem?_set_ne (by omega), ← List.getD_eq_getElem?_getD, HT2.out.2 q hq]
                by_cases hql : q < s
                · rw [if_pos hql, if_pos (by omega)]
                · rw [if_neg hql, if_neg (by omega)]⟩
            clear ha hb hWI ht hmost
            go_wp2_with fail
            refine HWI.out.mono ?_
            rintro e wr ⟨rfl, rfl⟩
            by_cases hp : 0 < t
            · obtain ⟨rfl, rfl⟩ := hstay hp
              have hpb : decide (0 < a) = true := decide_eq_true hp
              have hqa : (a != a) = false := by simp
              go_wp2_with fail
              go_roundg (N - (s + 1))
              case measure => omega
              case rel => exact ⟨s + 1, _, by omega, by go_num, (HSET.out _ rfl).1, (HSET.out _ rfl).2⟩
            · have hpb : decide (0 < t) = false := decide_eq_false hp
              clear hstay
              go_wp2_with fail
              go_roundg (N - (s + 1))
              case measure => omega
              case rel => exact ⟨s + 1, _, by omega, by go_num, (HSET.out _ rfl).1, (HSET.out _ rfl).2⟩
          · obtain rfl : s = N := by omega
            have hltI : ¬ (s : Int) < s := by omega
            go_wp2_with fail
            go_roundg (nx - (i + 1))
            case measure => omega
            case rel =>
              refine ⟨i + 1, A8, n8, l8, T2, by omega, by go_num, rfl, by rw [HS1.out.1], by rw [HS1.out.2], ⟨F2, Z2, zs2, by rw [HMN.out]; exact HKR.out, HZ2.out⟩, ⟨HT2.out.1, fun q hq => by rw [HT2.out.2 q hq, if_pos hq, HMN.out]⟩⟩
theorem masterKeeps_walk (W : World) (x0 : CfgD) (cs0 : List Value) (hk0 : kCfg.K W x0 cs0) (hg0 : GCfg x0) (AX : Option Addr) (cX : Nat) (xs : List MActD) (hxs : Kd.C kMAct W AX xs.length xs) (hlx : xs.length ≤ cX) (hgx : ∀ x ∈ xs, GMAct x) :
    Calls Try.prog 7 #[.agg cs0.toArray, .slice AX xs.length cX] W fun e w' => e = .returned (.bool true) ∧ Below W.heap.size W w' := by
  obtain ⟨B1, B2, B3, B4, B5, d1, d2, d3, d4, d5, rfl, hJ⟩ := kCfg_open hk0
  exact masterKeeps_in x0.job x0.workers x0.tries x0.timeout B1 B2 B3 B4 B5 d1 d2 d3 d4 d5 W hJ hg0.1.1 AX cX xs hxs hgx
end Go.Proofs.Ytbnhhlahbhjogaa.K
