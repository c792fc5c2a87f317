/- The document's net: what it holds; letters sent. WRITTEN BY wip/gen_refsend.py. -/
import Derived.Test.YtkgbcoijkmlmnaaE15
import Derived.Deep.RegionLaw
set_option linter.unusedVariables false
set_option linter.unusedSimpArgs false
set_option maxRecDepth 100000
namespace Go.Proofs.Ytkgbcoijkmlmnaa.K
open Go.RowKit Go.Proofs.YtkgbcoijkmlmnaaW.PrintWords Go.Proofs.YtkgbcoijkmlmnaaW.PrintLast Go.Proofs.YtkgbcoijkmlmnaaW.PrintMore Go.Proofs.Ytkgbcoijkmlmnaa.U Go.Proofs.Ytkgbcoijkmlmnaa.T

/-- The document's net at block gR: a row that no block of Z's can change. -/
structure RefN (w : World) (gR : Nat) (Z : Nat → Prop) (A : Option Addr) (c : Nat) (zs : List LetZ) : Prop where
  blk : w.heap[gR]? = some (.cells ([.slice A zs.length c] : List Value).toArray 30 (0, 0))
  le : zs.length ≤ c
  row : ∀ w', Ch w w' Z → Kd.C kLR w' A zs.length zs
  zg : Z gR
  zlt : ∀ k, Z k → k < w.heap.size
section
variable {w w1 w2 : World} {gR : Nat} {Z Z' T : Nat → Prop} {A A2 : Option Addr} {c c2 : Nat} {zs zs2 : List LetZ}
theorem RefN.step (h : RefN w gR Z A c zs) (hc : Ch w w1 T) (hT : ∀ k, k < w.heap.size → T k → Z k ∧ k ≠ gR) (hg : Z' gR) (hl : ∀ k, Z' k → k < w1.heap.size) (hZ : ∀ k, k < w.heap.size → Z' k → Z k) : RefN w1 gR Z' A c zs where
  blk := hc.blk h.blk (fun e => (hT gR (h.zlt gR h.zg) e).2 rfl)
  le := h.le
  row w' hc' := h.row w' ((show Ch w w1 Z from ⟨hc.os, hc.tape, hc.output, hc.size, fun k hk hs => hc.block k hk (fun ht => hs (hT k hk ht).1)⟩).trans hc' hZ)
  zg := hg
  zlt := hl
theorem RefN.now (h : RefN w gR Z A c zs) : Kd.C kLR w A zs.length zs := h.row w (Ch.refl _ _)
/-- Another row stands in the document's net. -/
theorem RefN.put (h : RefN w gR Z A c zs) (hH : HeldN w w2) (hO : Own kLR 36 w2 w.heap.size (.slice A2 zs2.length c2) zs2) :
    (w2.cell? ⟨gR, 0, none⟩ = some (.slice A zs.length c) ∧ w2.frozen? ⟨gR, 0, none⟩ = false) ∧ ∀ w9, w9 = w2.setCell ⟨gR, 0, none⟩ (.slice A2 zs2.length c2) → RefN w9 gR Z A2 c2 zs2 ∧ Ch w w9 (fun k => k = gR) := by
  have hlt := h.zlt gR h.zg
  have hb2 := (hH.block gR hlt).trans h.blk
  refine ⟨⟨cell_of_blk hb2, frozen_of_blk hb2⟩, fun w9 hw9 => ?_⟩
  have hc29 : Ch w2 w9 (fun k => k = gR) := by rw [hw9]; exact (Ch.refl w2 _).setCell ⟨gR, 0, none⟩ _ rfl
  have hO9 := hO.ch flat_LR hc29 (fun k hk e => by have := hO.base_ k hk; omega)
  have hc9 : Ch w w9 (fun k => k = gR) := (Ch.of_below hH _).trans hc29 (fun _ _ h => h)
  refine ⟨⟨by rw [hw9]; exact setCell_blk hb2 _, ?_, fun w' hc' => ?_, h.zg, fun k hk => Nat.lt_of_lt_of_le (h.zlt k hk) hc9.size⟩, hc9⟩
  · obtain ⟨A', c', e, hle, _⟩ := hO.reads
    injection e with _ _ e
    rw [e]
    exact hle
  · obtain ⟨A', c', e, _, hC⟩ := (hO9.ch flat_LR hc' (fun k hk hz => by have := hO9.base_ k hk; have := h.zlt k hz; omega)).reads
    injection e with e _ _
    rw [e]
    exact hC
end
def SlZ (z : LetZ) : Prop := ∃ A1 c1 A2 c2, z.sv = .slice A1 z.x.m.set.length c1 ∧ z.pv = .slice A2 z.x.m.prs.length c2
def sendZ (zs xs : List LetZ) : List LetZ := zs ++ xs.take (128 - zs.length)
def lostZ (zs xs : List LetZ) : Int := (xs.length : Int) - (xs.take (128 - zs.length)).length
theorem sendZ_len (ls xs : List LetZ) (h : ls.length ≤ 128) : (sendZ ls xs).length ≤ 128 := by unfold sendZ; rw [List.length_append, List.length_take]; omega
theorem lostZ_rng (ls ys : List LetZ) : 0 ≤ lostZ ls ys ∧ lostZ ls ys ≤ ys.length := by unfold lostZ; rw [List.length_take]; omega
theorem sendZ_room (ls xs : List LetZ) (x : LetZ) (hl : ls.length ≤ 128) (h : (sendZ ls xs).length < 128) : sendZ ls (xs ++ [x]) = sendZ ls xs ++ [x] ∧ lostZ ls (xs ++ [x]) = lostZ ls xs := by
  unfold sendZ lostZ at *
  rw [List.length_append, List.length_take] at h
  have h2 : xs.length < 128 - ls.length := by omega
  rw [List.take_of_length_le (l := xs ++ [x]) (by rw [List.length_append]; simp; omega), List.take_of_length_le (l := xs) (by omega)]
  exact ⟨by simp, by simp⟩
theorem sendZ_full (ls xs : List LetZ) (x : LetZ) (hl : ls.length ≤ 128) (h : 128 ≤ (sendZ ls xs).length) : sendZ ls (xs ++ [x]) = sendZ ls xs ∧ lostZ ls (xs ++ [x]) = lostZ ls xs + 1 := by
  unfold sendZ lostZ at *
  rw [List.length_append, List.length_take] at h
  have h2 : 128 - ls.length ≤ xs.length := by omega
  rw [List.take_append_of_le_length h2]
  exact ⟨rfl, by rw [List.length_append]; simp; omega⟩
theorem sendZ_map (zs xs : List LetZ) : (sendZ zs xs).map (·.x) = sendL (zs.map (·.x)) (xs.map (·.x)) := by unfold sendZ sendL; rw [List.map_append, List.map_take, List.length_map]
theorem lostZ_map (zs xs : List LetZ) : lostZ zs xs = lostN (zs.map (·.x)) (xs.map (·.x)) := by unfold lostZ lostN; rw [List.length_map, List.length_map, ← List.map_take, List.length_map]
theorem step_append_runs {P : Program} {ops : Array Oper} {o : Oper} {a : Act} {W : World} {Kc : Act → World → Prop} {Q : Exit → Act → World → Prop} (hw : Region.wanted o (yielded ops a.tmps) = true) (s x : Operand) (t : TypeId)
    (ho : o.op = .call { callee := .builtin .append, args := #[s, x], argTypes := #[t, t] }) (vs vx : Value) (hs : a.eval s = vs) (hx : a.eval x = vx) {R : Value → World → Prop} (hr : ∀ ty, Runs P (Builtin.append_ #[t, t] ty #[vs, vx]) W R) (h : ∀ v w1, R v w1 → Kc (a.put o.dst v) w1) :
    if Region.wanted o (yielded ops a.tmps) = true then Oper.wp P o a W Kc Q else Kc (a.put o.dst undef) W := by
  obtain ⟨v, w1, hrun, hR⟩ := hr o.type
  exact step_append_eq hw s x t ho vs vx v w1 hs hx hrun (h v w1 hR)
/-- append(nil, row ...). -/
theorem app_copy (w W : World) (hH : HeldN w W) (A : Option Addr) (n c : Nat) (zs : List LetZ) (hn : zs.length = n) (hC : Kd.C kLR W A n zs) (hl : n ≤ 1000000) (ty : TypeId) : Runs Try.prog (Builtin.append_ #[28, 28] ty #[.slice none 0 0, .slice A n c]) W fun v w1 => ∃ A1 c1, v = .slice A1 n c1 ∧ Own kLR 36 w1 w.heap.size (.slice A1 n c1) zs ∧ HeldN w w1 ∧ HeldN W w1 := by
  subst hn
  refine (append_own_runs Try.prog flat_LR 28 ty _ 128 Try.underlying28 info_let rfl (by decide) (Own.nil kLR 36 W W.heap.size) A zs.length c rfl hC (Nat.le_refl _) (by show (0 + zs.length) * 128 ≤ _; omega) (by show 0 + zs.length ≤ _; omega)).mono ?_
  rintro v w1 ⟨hO, hg⟩
  have hO : Own kLR 36 w1 W.heap.size v zs := hO
  obtain ⟨A1, c1, rfl, _, _⟩ := hO.reads
  have hb : HeldN W w1 := (Below.refl _ _).grown hg (Nat.le_refl _) (fun k hk => by cases hk)
  exact ⟨A1, c1, rfl, hO.lower hH.size, hH.then_ hb, hb⟩
/-- append(own row, read row ...). -/
theorem app_more (w W : World) (hH : HeldN w W) (A1 : Option Addr) (n c1 : Nat) (zs ys : List LetZ) (hn : zs.length = n) (hO : Own kLR 36 W w.heap.size (.slice A1 n c1) zs) (A : Option Addr) (m c : Nat) (hm : ys.length = m) (hC : Kd.C kLR W A m ys) (hl : n + m ≤ 1000000) (ty : TypeId) :
    Runs Try.prog (Builtin.append_ #[28, 28] ty #[.slice A1 n c1, .slice A m c]) W fun v w1 => ∃ A2 c2, v = .slice A2 (zs ++ ys).length c2 ∧ Own kLR 36 w1 w.heap.size (.slice A2 (zs ++ ys).length c2) (zs ++ ys) ∧ HeldN w w1 := by
  subst hn hm
  refine (append_own_runs Try.prog flat_LR 28 ty _ 128 Try.underlying28 info_let rfl (by decide) hO A ys.length c rfl hC hH.size (by omega) (by omega)).mono ?_
  rintro v w1 ⟨hO1, hg⟩
  obtain ⟨A2, c2, rfl, _, _⟩ := hO1.reads
  exact ⟨A2, c2, rfl, hO1, Below.ch hH (Ch.of_grown (S := fun k => (Value.slice A1 zs.length c1).ownBlock = some k) hg (fun k hk => hk)) hH.size (fun k hk => hO.base_ k hk)⟩
set_option maxHeartbeats 2400000 in
theorem refSend (w : World) (gR : Nat) (Z : Nat → Prop) (A : Option Addr) (c : Nat) (zs : List LetZ) (h : RefN w gR Z A c zs) (hz : zs.length ≤ 128) (Ax : Option Addr) (cx : Nat) (xs : List LetZ) (hC : ∀ w', Ch w w' (fun k => k = gR) → Kd.C kLR w' Ax xs.length xs) (hl : xs.length ≤ 1000) (hs : ∀ z ∈ xs, SlZ z) :
    Calls Try.prog 14 #[.pointer (some ⟨gR, 0, none⟩), .slice Ax xs.length cx] w fun e w' => e = .returned (.int .i64 (lostZ zs xs)) ∧ (∃ A' c', RefN w' gR Z A' c' (sendZ zs xs)) ∧ Ch w w' (fun k => k = gR) := by
  have HN := Aside0.mk h
  have HC := Aside0.mk hC
  have HS := Aside0.mk hs
  have HZL := Aside0.mk hz
  have hu := Try.underlying36
  have hum := Try.underlying34
  clear h hC hs hz
  go_enter Try.func14, Try.ntmps14
  go_wp2_with fail
  go_loopg [5, 6] xs.length (fun kq v5 v6 w' => ∃ k : Nat, k + kq = xs.length ∧ v6 = .int .i64 k ∧ v5 = .int .i64 (lostZ zs (xs.take k)) ∧ Aside0 ((∃ A' c', RefN w' gR Z A' c' (sendZ zs (xs.take k))) ∧ Ch w w' (fun k => k = gR)))
  case atStart => exact ⟨0, by omega, rfl, by simp [lostZ], ⟨⟨A, c, by
    have e1 : sendZ zs (xs.take 0) = zs := by simp [sendZ]
    rw [e1]
    exact HN.out⟩, Ch.refl _ _⟩⟩
  case round =>
    obtain ⟨k, hk, rfl, hv5, HI⟩ := hrel
    obtain ⟨Ak, ck, hR⟩ := HI.out.1
    have hLst := lostZ_rng zs (xs.take k)
    have hLen := sendZ_len zs (xs.take k) HZL.out
    have hTl : (xs.take k).length ≤ xs.length := by rw [List.length_take]; omega
    obtain ⟨L, hL⟩ : ∃ L, L = sendZ zs (xs.take k) := ⟨_, rfl⟩
    obtain ⟨N, hN⟩ : ∃ N, N = lostZ zs (xs.take k) := ⟨_, rfl⟩
    rw [← hL] at hR hLen
    rw [← hN] at hv5 hLst
    subst hv5
    have hN1 : 0 ≤ N ∧ N ≤ 1000 := by omega
    clear hLst
    have hcr : wr.cell? ⟨gR, 0, none⟩ = some (.slice Ak L.length ck) := cell_of_blk hR.blk
    have HR := Aside0.mk hR
    have HL := Aside0.mk hL
    have HNN := Aside0.mk hN
    have HCH := Aside0.mk HI.out.2
    by_cases hlt : k < xs.length
    case' neg =>
      have hltI : ¬ (k : Int) < xs.length := by omega
      have hkl : xs.take k = xs := List.take_of_length_le (by omega)
      clear hR hL hN hTl
      go_wp2_with fail
      go_ret
      have hr := HR.out
      rw [HL.out, hkl] at hr
      exact ⟨by rw [← hkl, ← HNN.out]; rfl, ⟨Ak, ck, hr⟩, HCH.out⟩
    have hltI : (k : Int) < xs.length := by omega
    have hk0 : (0 : Int) ≤ (k : Int) := by omega
    have ht0 : xs.take (k + 1) = xs.take k ++ [xs[k]'hlt] := List.take_succ_eq_append_getElem hlt
    have hCx := HC.out wr HI.out.2
    have hsl := HS.out _ (List.getElem_mem hlt)
    obtain ⟨z, hzz⟩ : ∃ z, z = xs[k]'hlt := ⟨_, rfl⟩
    rw [← hzz] at ht0 hsl
    obtain ⟨_, _, h3⟩ := hCx
    obtain ⟨ad, rfl, hcx⟩ := h3 (by omega)
    obtain ⟨cs, _, hK, hcell⟩ := hcx k z (by rw [hzz]; exact List.getElem?_eq_getElem hlt)
    obtain ⟨x, sv, pv⟩ := z
    obtain ⟨A1, c1, A2, c2, h5', h6'⟩ := hsl
    obtain ⟨fr, dst, m⟩ := x
    have h5 : sv = .slice A1 m.set.length c1 := h5'
    have h6 : pv = .slice A2 m.prs.length c2 := h6'
    clear h5' h6'
    obtain ⟨hcs, _, _⟩ := hK
    subst hcs
    subst h5
    subst h6
    have hlx : LetAt wr (ad.add (k * 12)) fr dst m (.slice A1 m.set.length c1) (.slice A2 m.prs.length c2) := LetAt.of (x := ⟨fr, dst, m⟩) hcell
    obtain ⟨P0, hP0⟩ : ∃ P, ad.add (k * 12) = P := ⟨_, rfl⟩
    rw [hP0] at hlx
    obtain ⟨g0, o0, z0⟩ := P0
    obtain ⟨ls1, hls1⟩ : ∃ n, n = m.set.length := ⟨_, rfl⟩
    obtain ⟨lp1, hlp1⟩ : ∃ n, n = m.prs.length := ⟨_, rfl⟩
    rw [← hls1, ← hlp1] at hlx ht0
    have HT0 := Aside0.mk ht0
    have HLX := Aside0.mk hlx
    clear hR hL hN hTl hcell hcx h3 hzz ht0 hlx hls1 hlp1
    by_cases hfull : (128 : Int) ≤ L.length
    · have HFULL := Aside0.mk (sendZ_full zs (xs.take k) ⟨⟨fr, dst, m⟩, .slice A1 ls1 c1, .slice A2 lp1 c2⟩ HZL.out (by rw [← HL.out]; omega))
      go_wp2_with fail
      go_roundg (xs.length - (k + 1))
      case measure => omega
      case rel => exact ⟨k + 1, by omega, by go_num, by rw [HT0.out, HFULL.out.2, ← HNN.out], ⟨⟨Ak, ck, by rw [HT0.out, HFULL.out.1, ← HL.out]; exact HR.out⟩, HCH.out⟩⟩
    · have HROOM := Aside0.mk (sendZ_room zs (xs.take k) ⟨⟨fr, dst, m⟩, .slice A1 ls1 c1, .slice A2 lp1 c2⟩ HZL.out (by rw [← HL.out]; omega))
      have hCL := HR.out.now
      have hLn : L.length ≤ 128 := hLen
      have hh0 : HeldN wr wr.drew := below_drew wr
      have hdr : wr.drew.cell? ⟨gR, 0, none⟩ = some (.slice Ak L.length ck) := (hh0.cell (World.block_lt_of_cell? _ _ hcr)).trans hcr
      have HCPY : Aside0 (∀ W, HeldN wr W → ∀ ty, Runs Try.prog (Builtin.append_ #[28, 28] ty #[.slice none 0 0, .slice Ak L.length ck]) W fun v w1 => ∃ A1 c1, v = .slice A1 L.length c1 ∧ Own kLR 36 w1 wr.heap.size (.slice A1 L.length c1) L ∧ HeldN wr w1 ∧ HeldN W w1) := ⟨fun W hW ty => app_copy wr W hW Ak L.length ck L rfl (Kd.C_below hCL hW) (by omega) ty⟩
      have HSTAY : Aside0 (∀ W, HeldN wr W → (W.cell? ⟨gR, 0, none⟩ = some (.slice Ak L.length ck)) ∧ LetAt W ⟨g0, o0, z0⟩ fr dst m (.slice A1 ls1 c1) (.slice A2 lp1 c2)) := ⟨fun W hW => ⟨(hW.cell (World.block_lt_of_cell? _ _ hcr)).trans hcr, HLX.out.below hW⟩⟩
      have HLIT : Aside0 (∀ W : World, Kd.C kLR (W.alloc (.cells #[.int .i64 fr, .int .i64 dst, .int .i64 m.k, .int .i64 m.s, .int .i64 m.a, .int .i64 m.p, .int .i64 m.q, .int .i64 m.n, .int .i64 m.e, .int .i64 m.r, .slice A1 ls1 c1, .slice A2 lp1 c2] 36)) (some ⟨W.heap.size, 0, none⟩) 1 [(⟨⟨fr, dst, m⟩, .slice A1 ls1 c1, .slice A2 lp1 c2⟩ : LetZ)]) := ⟨fun W => zs_C _ ⟨⟨fr, dst, m⟩, .slice A1 ls1 c1, .slice A2 lp1 c2⟩ rfl rfl (alloc_at W (.cells (rawZ ⟨⟨fr, dst, m⟩, .slice A1 ls1 c1, .slice A2 lp1 c2⟩).toArray 36))⟩
      have HAL : Aside0 (∀ W : World, HeldN W (W.alloc (.cells #[.int .i64 fr, .int .i64 dst, .int .i64 m.k, .int .i64 m.s, .int .i64 m.a, .int .i64 m.p, .int .i64 m.q, .int .i64 m.n, .int .i64 m.e, .int .i64 m.r, .slice A1 ls1 c1, .slice A2 lp1 c2] 36))) := ⟨fun W => (Below.refl _ _).alloc (Nat.le_refl _) _⟩
      obtain ⟨f0, f1, f2, f3, f4, f5, f6, f7, f8, f9, fa, fb⟩ := HLX.out.below hh0
      clear hCL
      have hhq : HeldN wr (wr.alloc (.cells #[.int .i64 fr, .int .i64 dst, .int .i64 m.k, .int .i64 m.s, .int .i64 m.a, .int .i64 m.p, .int .i64 m.q, .int .i64 m.n, .int .i64 m.e, .int .i64 m.r, .slice A1 ls1 c1, .slice A2 lp1 c2] 36)).drew := (HAL.out wr).then_ (below_drew _)
      have hqr : (wr.alloc (.cells #[.int .i64 fr, .int .i64 dst, .int .i64 m.k, .int .i64 m.s, .int .i64 m.a, .int .i64 m.p, .int .i64 m.q, .int .i64 m.n, .int .i64 m.e, .int .i64 m.r, .slice A1 ls1 c1, .slice A2 lp1 c2] 36)).drew.cell? ⟨gR, 0, none⟩ = some (.slice Ak L.length ck) := (HSTAY.out _ hhq).1
      have hLz : (L ++ [(⟨⟨fr, dst, m⟩, .slice A1 ls1 c1, .slice A2 lp1 c2⟩ : LetZ)]).length = L.length + 1 := by simp
      have HLZ := Aside0.mk hLz
      clear hLz
      have HPUT : Aside0 (∀ (w2 : World) (v : Value), (∃ C2 e2, v = .slice C2 (L ++ [(⟨⟨fr, dst, m⟩, .slice A1 ls1 c1, .slice A2 lp1 c2⟩ : LetZ)]).length e2 ∧ Own kLR 36 w2 wr.heap.size (.slice C2 (L ++ [(⟨⟨fr, dst, m⟩, .slice A1 ls1 c1, .slice A2 lp1 c2⟩ : LetZ)]).length e2) (L ++ [(⟨⟨fr, dst, m⟩, .slice A1 ls1 c1, .slice A2 lp1 c2⟩ : LetZ)]) ∧ HeldN wr w2) → ∃ C2 e2, v = .slice C2 (L.length + 1) e2 ∧ (w2.cell? ⟨gR, 0, none⟩ = some (.slice Ak L.length ck) ∧ w2.frozen? ⟨gR, 0, none⟩ = false) ∧ Aside0 (∀ w9 : World, w9 = w2.setCell ⟨gR, 0, none⟩ (.slice C2 (L.length + 1) e2) → RefN w9 gR Z C2 e2 (L ++ [(⟨⟨fr, dst, m⟩, .slice A1 ls1 c1, .slice A2 lp1 c2⟩ : LetZ)]) ∧ Ch wr w9 (fun k => k = gR))) := ⟨by
        rintro w2 v ⟨C2, e2, rfl, hO2, hH2⟩
        obtain ⟨hq, H9⟩ := HR.out.put hH2 hO2
        rw [HLZ.out] at H9 ⊢
        exact ⟨C2, e2, rfl, hq, ⟨H9⟩⟩⟩
      have HM1 : Aside0 (∀ (w1 : World) (B1 : Option Addr) (d1 : Nat), HeldN wr w1 → Own kLR 36 w1 wr.heap.size (.slice B1 L.length d1) L → ∀ ty, Runs Try.prog (Builtin.append_ #[28, 28] ty #[.slice B1 L.length d1, .slice (some ⟨w1.heap.size, 0, none⟩) 1 1]) (w1.alloc (.cells #[.int .i64 fr, .int .i64 dst, .int .i64 m.k, .int .i64 m.s, .int .i64 m.a, .int .i64 m.p, .int .i64 m.q, .int .i64 m.n, .int .i64 m.e, .int .i64 m.r, .slice A1 ls1 c1, .slice A2 lp1 c2] 36)) fun v w2 => ∃ C2 e2, v = .slice C2 (L.length + 1) e2 ∧ (w2.cell? ⟨gR, 0, none⟩ = some (.slice Ak L.length ck) ∧ w2.frozen? ⟨gR, 0, none⟩ = false) ∧ Aside0 (∀ w9 : World, w9 = w2.setCell ⟨gR, 0, none⟩ (.slice C2 (L.length + 1) e2) → RefN w9 gR Z C2 e2 (L ++ [(⟨⟨fr, dst, m⟩, .slice A1 ls1 c1, .slice A2 lp1 c2⟩ : LetZ)]) ∧ Ch wr w9 (fun k => k = gR))) := ⟨fun w1 B1 d1 hH hO ty => (app_more wr _ (hH.then_ (HAL.out w1)) B1 L.length d1 L [(⟨⟨fr, dst, m⟩, .slice A1 ls1 c1, .slice A2 lp1 c2⟩ : LetZ)] rfl (hO.below (HAL.out w1)) (some ⟨w1.heap.size, 0, none⟩) 1 1 rfl (HLIT.out w1) (by omega) ty).mono (fun v w2 h => HPUT.out w2 v h)⟩
      have HM2 : Aside0 (∀ (w1 : World) (B1 : Option Addr) (d1 : Nat), HeldN wr w1 → HeldN (wr.alloc (.cells #[.int .i64 fr, .int .i64 dst, .int .i64 m.k, .int .i64 m.s, .int .i64 m.a, .int .i64 m.p, .int .i64 m.q, .int .i64 m.n, .int .i64 m.e, .int .i64 m.r, .slice A1 ls1 c1, .slice A2 lp1 c2] 36)).drew w1 → Own kLR 36 w1 wr.heap.size (.slice B1 L.length d1) L → ∀ ty, Runs Try.prog (Builtin.append_ #[28, 28] ty #[.slice B1 L.length d1, .slice (some ⟨wr.heap.size, 0, none⟩) 1 1]) w1 fun v w2 => ∃ C2 e2, v = .slice C2 (L.length + 1) e2 ∧ (w2.cell? ⟨gR, 0, none⟩ = some (.slice Ak L.length ck) ∧ w2.frozen? ⟨gR, 0, none⟩ = false) ∧ Aside0 (∀ w9 : World, w9 = w2.setCell ⟨gR, 0, none⟩ (.slice C2 (L.length + 1) e2) → RefN w9 gR Z C2 e2 (L ++ [(⟨⟨fr, dst, m⟩, .slice A1 ls1 c1, .slice A2 lp1 c2⟩ : LetZ)]) ∧ Ch wr w9 (fun k => k = gR))) := ⟨fun w1 B1 d1 hH hW hO ty => (app_more wr w1 hH B1 L.length d1 L [(⟨⟨fr, dst, m⟩, .slice A1 ls1 c1, .slice A2 lp1 c2⟩ : LetZ)] rfl hO (some ⟨wr.heap.size, 0, none⟩) 1 1 rfl (Kd.C_below (Kd.C_below (HLIT.out wr) (below_drew _)) hW) (by omega) ty).mono (fun v w2 h => HPUT.out w2 v h)⟩
      go_wp2_with fail
      go_region_law (first
        | (refine step_append_runs rfl (.const (.slice none 0 0)) (.tmp 25) 28 rfl (.slice none 0 0) (.slice Ak L.length ck) (by simp [Act.eval, Act.put]) (by simp [Act.eval, Act.put]) (HCPY.out _ (by first | exact hh0 | exact hhq)) ?_; rintro _ w1 ⟨B1, d1, rfl, hO1, hH1, hW1⟩; obtain ⟨p0, p1, p2, p3, p4, p5, p6, p7, p8, p9, pa, pb⟩ := (HSTAY.out w1 hH1).2)
        | (refine step_append_runs rfl (.tmp 26) (.tmp 31) 28 rfl (.slice B1 L.length d1) (.slice (some ⟨w1.heap.size, 0, none⟩) 1 1) (by simp [Act.eval, Act.put]) (by simp [Act.eval, Act.put]) (HM1.out w1 B1 d1 hH1 hO1) ?_; rintro _ w2 ⟨C2, e2, rfl, ⟨hq2, hz2⟩, H9A⟩)
        | (refine step_append_runs rfl (.tmp 26) (.tmp 31) 28 rfl (.slice B1 L.length d1) (.slice (some ⟨wr.heap.size, 0, none⟩) 1 1) (by simp [Act.eval, Act.put]) (by simp [Act.eval, Act.put]) (HM2.out w1 B1 d1 hH1 hW1 hO1) ?_; rintro _ w2 ⟨C2, e2, rfl, ⟨hq2, hz2⟩, H9A⟩))
      all_goals
        obtain ⟨w9, hw9⟩ : ∃ w9, w9 = w2.setCell ⟨gR, 0, none⟩ (.slice C2 (L.length + 1) e2) := ⟨_, rfl⟩
        rw [← hw9]
        obtain ⟨hR9, hC9⟩ := H9A.out w9 hw9
        have HR9 : Aside0 (RefN w9 gR Z C2 e2 (sendZ zs (xs.take (k + 1)))) := ⟨by
          rw [HT0.out, HROOM.out.1, ← HL.out]
          exact hR9⟩
        have HC9 : Aside0 (Ch w w9 (fun k => k = gR)) := ⟨HCH.out.trans hC9 (fun _ _ h => h)⟩
        have HN9 : Aside0 (lostZ zs (xs.take (k + 1)) = N) := ⟨by rw [HT0.out, HROOM.out.2, ← HNN.out]⟩
        clear hw9 hR9 hC9 hq2 hz2
        go_wp2_with fail
        go_roundg (xs.length - (k + 1))
        case measure => omega
        case rel => exact ⟨k + 1, by omega, by go_num, by rw [HN9.out], ⟨⟨C2, e2, HR9.out⟩, HC9.out⟩⟩
end Go.Proofs.Ytkgbcoijkmlmnaa.K
