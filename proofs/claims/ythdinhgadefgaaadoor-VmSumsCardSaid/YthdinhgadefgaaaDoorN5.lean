/- A number's digits, made once: what the call does. -/
import Derived.Test.YthdinhgadefgaaaDoorN4
import Derived.Test.YthdinhgadefgaaaDoorV3
import Derived.Deep.RegionHeld3
set_option linter.unusedVariables false
set_option linter.unusedSimpArgs false
set_option maxRecDepth 100000
namespace Go.Proofs.YthdinhgadefgaaaDoor.K
open Go.RowKit Go.Proofs.YthdinhgadefgaaaDoorW.PrintWords Go.Proofs.YthdinhgadefgaaaDoorW.PrintLast Go.Proofs.YthdinhgadefgaaaDoorW.PrintMore Go.Proofs.YthdinhgadefgaaaDoor.U Go.Proofs.YthdinhgadefgaaaDoor.T Go.Proofs.YthdinhgadefgaaaDoor.V
open Go.ChangeMaps (setBlock)

/-- The digits that are kept, in the map m: each cell is done. -/
def DigR (B m : Nat) (w : World) : Prop := ∃ L clock, MapN w m L clock ∧ B ≤ m ∧ ∀ e ∈ L, ∃ g f, e.v = .pointer (some ⟨g, 0, none⟩) ∧ B ≤ g ∧ CellR w g 1 0 1 f (digB e.n)
/-- Maps' and cells' blocks. -/
def DigS (w : World) (k : Nat) : Prop := (∃ es c, w.heap[k]? = some (.map es c)) ∨ ∃ cs fr, w.heap[k]? = some (.cells cs 132 fr)
theorem DigR.ch {B m : Nat} {w w' : World} {S : Nat → Prop} (h : DigR B m w) (hc : Ch w w' S) (hS : ∀ k, S k → ¬ DigS w k) : DigR B m w' := by
  obtain ⟨L, clock, h1, h2, h3⟩ := h
  refine ⟨L, clock, h1.ch hc (fun hs => hS _ hs (.inl ⟨_, _, h1⟩)), h2, fun e he => ?_⟩
  obtain ⟨g, f, a, b, c⟩ := h3 e he
  exact ⟨g, f, a, b, c.ch hc (fun hs => hS _ hs (.inr ⟨_, _, c⟩))⟩
theorem DigR.below {B m : Nat} {w w' : World} (h : DigR B m w) (hb : Below w.heap.size w w') : DigR B m w' := h.ch (Ch.of_below hb (fun _ => False)) (fun _ h => h.elim)
/-- What the kept digits' blocks may be after. -/
theorem digClo (gn : Nat) (n : Int) (hn : In64 n) (w : World) (hE : Env w) (hc : w.heap[gn]? = some (.cells ([.int .i64 n] : List Value).toArray 2 (0, 0))) :
    Calls Tryd.prog 76 #[.pointer (some ⟨gn, 0, none⟩)] w fun e w' => e = .returned (.string (digB n)) ∧ w'.heap[gn]? = some (.cells ([.int .i64 n] : List Value).toArray 2 (0, 0)) ∧ Ch w w' (fun _ => False) := by
  have hcc : w.cell? ⟨gn, 0, none⟩ = some (.int .i64 n) := cell_of_blk hc
  have HC := Aside0.mk hc
  clear hc
  go_enter Tryd.func76, Tryd.ntmps76
  go_wp2_with fail
  refine (valDigits n w hE hn).mono ?_
  rintro e w1 ⟨rfl, hb1⟩
  have HB1 := Aside0.mk hb1
  clear hb1
  go_wp2_with fail
  go_ret
  exact ⟨rfl, (HB1.out.block gn (blk_lt' HC.out)).trans HC.out, Ch.of_below HB1.out _⟩
theorem findN_snoc (n : Int) (v : Value) (c : Nat) (L : List EntN) (i : Nat) (h : findN n L i = none) : ((findN n (L ++ [⟨n, v, c⟩]) i).map (·.2)).getD (.pointer none) = v := by
  induction L generalizing i with
  | nil => simp [findN]
  | cons e es ih =>
    rw [findN] at h
    rw [List.cons_append, findN]
    cases hc : n == e.n
    · rw [hc] at h
      exact ih _ h
    · rw [hc] at h
      cases h
theorem ent_of {f : FuncId} {fn : Func} {c : Code} (hf : Tryd.prog.funcs[f]? = some fn) (hname : (fn.name == "runtime.NumGoroutine") = false) (hb : fn.body = some c) (args : Array Value) (w : World) : (callFunc f args).run Tryd.prog w = .ok (.enter f args) w := by
  have h1 : fn.name ≠ "runtime.NumGoroutine" := by simpa using hname
  simp [callFunc, hf, h1, hb, mark]
theorem blk_neM {w : World} {g h : Nat} {cs cs' : Array Value} {t t' : TypeId} {fr fr' : Nat × Nat} (h1 : w.heap[g]? = some (.cells cs t fr)) (h2 : w.heap[h]? = some (.cells cs' t' fr')) (ht : t ≠ t') : g ≠ h := by
  rintro rfl
  rw [h1] at h2
  injection h2 with h2
  injection h2 with _ h2
  exact ht h2
/-- Only new blocks since w. -/
def HeldM (w w' : World) : Prop := Below w.heap.size w w'
theorem HeldM.drew (w : World) : HeldM w w.drew := below_drew1 (Below.refl _ _)
theorem two_belowM {w w1 w2 : World} (h : Below w.heap.size w w1) (k : Below w1.heap.size w1 w2) : Below w.heap.size w w2 := below_then h h.size k
set_option maxHeartbeats 1600000 in
theorem vmText (W0 : World) (hE0 : Env W0) (R m : Nat) (n : Int) (hn : In64 n) (w : World) (hb0 : Below W0.heap.size W0 w) (cs : List Value) (hR : w.heap[R]? = some (.cells cs.toArray 76 (0, 0))) (hm : cs[33]? = some (.map (some m))) (hD : DigR W0.heap.size m w) :
    Calls Tryd.prog 62 #[.pointer (some ⟨R, 0, none⟩), .int .i64 n] w fun e w' => e = .returned (.string (digB n)) ∧ DigR W0.heap.size m w' ∧ Ch w w' (fun k => W0.heap.size ≤ k ∧ DigS w k) := by
  have hB := hb0.size
  obtain ⟨B, hBe⟩ : ∃ B, B = W0.heap.size := ⟨_, rfl⟩
  rw [← hBe] at hB hD ⊢
  obtain ⟨gn, hgn⟩ : ∃ g, g = w.heap.size := ⟨_, rfl⟩
  obtain ⟨wA, hwA⟩ : ∃ w', w' = w.alloc (.cells #[.int .i64 n] 2) := ⟨_, rfl⟩
  have hbA := (Below.refl w.heap.size w).alloc (Nat.le_refl _) (.cells #[.int .i64 n] 2)
  rw [← hwA] at hbA
  have hRA := (hbA.block R (blk_lt' hR)).trans hR
  have hnA : wA.heap[gn]? = some (.cells ([.int .i64 n] : List Value).toArray 2 (0, 0)) := by rw [hwA, hgn]; exact alloc_at w _
  have hb0A := two_belowM hb0 hbA
  obtain ⟨L, clock, hM, hBm, hL⟩ := id (hD.below hbA)
  have hDA := hD.below hbA
  have hDSA : ∀ k, k < w.heap.size → DigS wA k → DigS w k := fun k hk h => by
    unfold DigS at h ⊢
    rw [hbA.block k hk] at h
    exact h
  have HWA := Aside0.mk hwA
  have HGN := Aside0.mk hgn
  clear hwA hgn
  rcases findN_split n L 0 with ⟨h1, h2⟩ | ⟨e0, he0, j, h1, h2⟩
  · obtain ⟨g, hg⟩ : ∃ g, g = wA.heap.size := ⟨_, rfl⟩
    obtain ⟨clo, hclo⟩ : ∃ c, c = Value.func (.func 76) #[] #[.pointer (some ⟨gn, 0, none⟩)] := ⟨_, rfl⟩
    have hmf : ∀ (fn : Fn) (first cap : Array Value) (w : World), (Instr.makeFunc fn first cap).run Tryd.prog w = .ok (.func fn first cap) w := fun _ _ _ _ => rfl
    have hlR : R < wA.heap.size := blk_lt' hRA
    have hlm : m < wA.heap.size := blk_lt' hM
    have hln : gn < wA.heap.size := blk_lt' hnA
    have hRm : R ≠ m := fun e => by
      unfold MapN at hM
      rw [← e, hRA] at hM
      cases hM
    have hnm : gn ≠ m := fun e => by
      unfold MapN at hM
      rw [← e, hnA] at hM
      cases hM
    have hwB : W0.heap.size ≤ wA.heap.size := hb0A.size
    have HS1 : Aside0 (∀ w', HeldM wA w' → (w'.cell? ⟨R, 33, none⟩ = some (.map (some m)) ∧ w'.cell? ⟨gn, 0, none⟩ = some (.int .i64 n) ∧ (Instr.lookup 74 (.map (some m)) (.int .i64 n) false).run Tryd.prog w' = .ok (.pointer none) w') ∧ HeldM wA w') := ⟨fun w' hb' => by
      have hb : Below wA.heap.size wA w' := hb'
      have a := (hb.block R (blk_lt' hRA)).trans hRA
      have b := (hb.block gn (blk_lt' hnA)).trans hnA
      have c := lookN_run (w := w') (show MapN w' m L clock from (hb.block m (blk_lt' hM)).trans hM) n
      rw [h1] at c
      exact ⟨⟨(cell_of_blk a).trans hm, cell_of_blk b, c⟩, hb'⟩⟩
    have HN : Aside0 (Calls Tryd.prog 75 #[.func (.func 76) #[] #[.pointer (some ⟨gn, 0, none⟩)]] wA.drew.drew fun e w'' => e = .returned (.pointer (some ⟨g, 0, none⟩)) ∧ Ch wA w'' (fun k => k = m) ∧ ∃ wz, (Instr.mapUpdate 74 (.map (some m)) (.int .i64 n) (.pointer (some ⟨g, 0, none⟩))).run Tryd.prog w'' = .ok () wz ∧ Ch wA wz (fun k => k = m) ∧ Aside0 (MapN wz m (L ++ [⟨n, .pointer (some ⟨g, 0, none⟩), clock⟩]) (clock + 1) ∧ CellR wz g 0 0 0 clo ⟨#[]⟩)) := ⟨by
      refine (lzNew _ _ _ _).mono ?_
      rintro e w'' ⟨rfl, hC, hb⟩
      have hbA' : Below wA.heap.size wA w'' := below_then (below_drew1 (HeldM.drew wA)) (Nat.le_refl _) hb
      have hM'' : MapN w'' m L clock := (hbA'.block m hlm).trans hM
      refine ⟨by rw [hg]; rfl, Ch.of_below hbA' _, _, updN_run hM'' n _ h1, ?_, ⟨?_, ?_⟩⟩
      · exact (Ch.of_below hbA' _).trans (ch_setN hM'') (fun _ _ h => h)
      · exact hM''.put _ _
      · have hC' : CellR w'' g 0 0 0 clo ⟨#[]⟩ := by rw [hg, hclo]; exact hC
        exact hC'.ch (ch_setN hM'') (by omega)⟩
    have HK : Aside0 (∀ w', Ch wA w' (fun k => k = m) → w'.cell? ⟨R, 33, none⟩ = some (.map (some m)) ∧ w'.cell? ⟨gn, 0, none⟩ = some (.int .i64 n)) := ⟨fun w' hb =>
      ⟨(cell_of_blk (hb.blk hRA hRm)).trans hm, cell_of_blk (hb.blk hnA hnm)⟩⟩
    have HRA := Aside0.mk hRA
    have HNA := Aside0.mk hnA
    have HLL := Aside0.mk hL
    have HB0 := Aside0.mk hb0A
    have HFR := Aside0.mk (And.intro hbA hDSA)
    have HEZ := Aside0.mk hE0
    have HNE := Aside0.mk (And.intro hRm hnm)
    have HNE2 : Aside0 (R < g ∧ gn < g ∧ m < g ∧ W0.heap.size ≤ g ∧ B ≤ g ∧ g = wA.heap.size) := ⟨by omega⟩
    have HF := Aside0.mk h1
    have HM0 := Aside0.mk hM
    have HBE := Aside0.mk hBe
    have HBM := Aside0.mk hBm
    have HG := Aside0.mk hg
    have HCLO := Aside0.mk hclo
    have hk0 : Ch wA wA.drew (fun k => k = m) := Ch.of_below (HeldM.drew _) _
    have hk1 : Ch wA wA.drew.drew (fun k => k = m) := Ch.of_below (below_drew1 (HeldM.drew _)) _
    have hk2 := HK.out
    clear hg hclo hRm hnm hlR hlm hln hwB hL hM h1 h2 hnA hRA hbA hDSA hDA hb0A hb0 hD hR hE0
    have hh0 : HeldM wA wA.drew := HeldM.drew _
    have hh1 : HeldM wA wA.drew.drew := below_drew1 (HeldM.drew _)
    have hk := HS1.out
    go_enter Tryd.func62, Tryd.ntmps62
    go_upto_region 1 with (fail)
    rw [← HGN.out, ← HWA.out]
    go_region_held3 (fun w' => (w'.cell? ⟨R, 33, none⟩ = some (.map (some m)) ∧ w'.cell? ⟨gn, 0, none⟩ = some (.int .i64 n) ∧ (Instr.lookup 74 (.map (some m)) (.int .i64 n) false).run Tryd.prog w' = .ok (.pointer none) w') ∧ HeldM wA w') (exact HS1.out _ (by assumption)) (fail)
    go_upto_region 2 with (fail)
    go_region_held3 (fun w' => w'.cell? ⟨R, 33, none⟩ = some (.map (some m)) ∧ w'.cell? ⟨gn, 0, none⟩ = some (.int .i64 n)) (exact HK.out _ (by assumption))
     ((go_at_call 75; ((with_reducible refine HN.out.mono ?_); rintro e wn ⟨rfl, hHz, wz, hup, hcz, HZ⟩)))
    obtain ⟨hMz, hCz⟩ := HZ.out
    have hRz := hcz.blk HRA.out HNE.out.1
    have hnz := hcz.blk HNA.out HNE.out.2
    have hgR : R ≠ g := by have := HNE2.out; omega
    have hgn : gn ≠ g := by have := HNE2.out; omega
    have hgm : m ≠ g := by have := HNE2.out; omega
    have HS3 : Aside0 (∀ w', Ch wz w' (fun k => k = g) → w'.cell? ⟨R, 33, none⟩ = some (.map (some m)) ∧ w'.cell? ⟨gn, 0, none⟩ = some (.int .i64 n) ∧ (Instr.lookup 74 (.map (some m)) (.int .i64 n) false).run Tryd.prog w' = .ok (.pointer (some ⟨g, 0, none⟩)) w') := ⟨fun w' hb => by
      have c := lookN_run (hMz.ch hb hgm) n
      rw [findN_snoc n _ _ _ _ HF.out] at c
      exact ⟨(cell_of_blk (hb.blk hRz hgR)).trans hm, cell_of_blk (hb.blk hnz hgn), c⟩⟩
    have hdz : Ch wz wz.drew (fun k => k = g) := Ch.of_below (below_drew1 (Below.refl _ _)) _
    have hbz : Below W0.heap.size W0 wz := by
      refine Below.ch HB0.out hcz HB0.out.size (fun k hk => ?_)
      rw [hk, ← HBE.out]
      exact HBM.out
    have HG3 : Aside0 (Calls Tryd.prog 77 #[.pointer (some ⟨g, 0, none⟩)] wz.drew fun e w'' => e = .returned (.string (digB n)) ∧ (DigR B m w'' ∧ Ch w w'' (fun k => B ≤ k ∧ DigS w k)) ∧ Ch wz w'' (fun k => k = g)) := ⟨by
      have hC0 : CellR wz.drew g 0 0 0 (.func (.func 76) #[] #[.pointer (some ⟨gn, 0, none⟩)]) ⟨#[]⟩ := by rw [← HCLO.out]; exact hCz
      refine (lzGet_first g 0 76 #[.pointer (some ⟨gn, 0, none⟩)] (fun w => ent_of Tryd.func76 (by kernel_rfl) rfl _ w) ⟨#[]⟩ (digB n) wz.drew hC0
        (fun w1 => Below W0.heap.size W0 w1 ∧ w1.heap[gn]? = some (.cells ([.int .i64 n] : List Value).toArray 2 (0, 0))) (fun _ => True) (fun _ => False)
        ⟨below_drew1 hbz, hnz⟩ (fun w1 w2 h1 h2 => ⟨Below.ch h1.1 h2 h1.1.size (fun k hk => by rw [hk]; have := HNE2.out; omega), h2.blk h1.2 hgn⟩) (fun _ _ _ _ => trivial) id (fun _ h => h.elim)
        (fun w1 h1 => (digClo gn n hn w1 (HEZ.out.below h1.1) h1.2).mono (fun e w2 h2 => ⟨h2.1, trivial, h2.2.2⟩))).mono ?_
      rintro e w2 ⟨rfl, hC2, _, hc2⟩
      have hc3 : Ch wz w2 (fun k => k = g) := hdz.trans hc2 (fun k _ h => h.elim id (fun h => h.elim))
      refine ⟨rfl, ⟨⟨_, _, hMz.ch hc3 hgm, HBM.out, fun e he => ?_⟩, ?_⟩, hc3⟩
      · rcases List.mem_append.1 he with he | he
        · obtain ⟨g', f', a, b, c⟩ := HLL.out e he
          have hlt := blk_lt' c
          have hne : g' ≠ m := fun e => by
            have c' := c
            have := HM0.out
            unfold CellR at c'
            unfold MapN at this
            rw [e, this] at c'
            cases c'
          exact ⟨g', f', a, b, (c.ch hcz hne).ch hc3 (by have := HNE2.out; omega)⟩
        · obtain rfl := List.mem_singleton.1 he
          exact ⟨g, _, rfl, by have := HNE2.out; omega, hC2⟩
      · have q1 : Ch w wA (fun k => B ≤ k ∧ DigS w k) := Ch.of_below HFR.out.1 _
        have q2 : Ch wA wz (fun k => B ≤ k ∧ DigS wA k) := hcz.mono (fun k hk => by rw [hk]; exact ⟨HBM.out, .inl ⟨_, _, HM0.out⟩⟩)
        have q3 : Ch w wz (fun k => B ≤ k ∧ DigS w k) := q1.trans q2 (fun k hk h => ⟨h.1, HFR.out.2 k hk h.2⟩)
        exact q3.trans hc3 (fun k hk h => by have := HNE2.out; have := HFR.out.1.size; omega)⟩
    clear hMz hCz hRz hnz hgR hgn hgm hdz hbz hcz hk2
    have hk3 := HS3.out
    go_upto_region 3 with (fail)
    go_region_held3 (fun w' => w'.cell? ⟨R, 33, none⟩ = some (.map (some m)) ∧ w'.cell? ⟨gn, 0, none⟩ = some (.int .i64 n) ∧ (Instr.lookup 74 (.map (some m)) (.int .i64 n) false).run Tryd.prog w' = .ok (.pointer (some ⟨g, 0, none⟩)) w') (first | exact HS3.out _ (by assumption) | exact HS3.out _ (Ch.of_below (below_drew1 (Below.refl _ _)) _))
     ((go_at_call 77; ((with_reducible refine HG3.out.mono ?_); rintro e wn ⟨rfl, hDz, hCz⟩)))
    go_wp2_with fail
    go_ret
    exact ⟨rfl, hDz⟩
  · obtain ⟨g, f, ev, hg, hC⟩ := hL e0 he0
    rw [h1] at hC
    have hgs : g < wA.heap.size := blk_lt' hC
    have hgw : DigS wA g := .inr ⟨_, _, hC⟩
    have hRg : R ≠ g := blk_neM hRA hC (by decide)
    have hng : gn ≠ g := blk_neM hnA hC (by decide)
    have hmg : m ≠ g := fun e => by
      have hC' := hC
      unfold CellR MapN at *
      rw [← e, hM] at hC'
      cases hC'
    have HS : Aside0 (∀ w', Ch wA w' (fun k => k = g) → w'.cell? ⟨R, 33, none⟩ = some (.map (some m)) ∧ w'.cell? ⟨gn, 0, none⟩ = some (.int .i64 n) ∧ (Instr.lookup 74 (.map (some m)) (.int .i64 n) false).run Tryd.prog w' = .ok (.pointer (some ⟨g, 0, none⟩)) w') := ⟨fun w' hb => by
      have a := hb.blk hRA hRg
      have b := hb.blk hnA hng
      have c := lookN_run (hM.ch hb hmg) n
      rw [h2] at c
      simp only [Option.map_some, Option.getD_some, ev] at c
      exact ⟨(cell_of_blk a).trans hm, cell_of_blk b, c⟩⟩
    have HG : Aside0 (∀ w', HeldM wA w' → Calls Tryd.prog 77 #[.pointer (some ⟨g, 0, none⟩)] w' fun e w'' => e = .returned (.string (digB n)) ∧ (DigR B m w'' ∧ Ch w w'' (fun k => B ≤ k ∧ DigS w k)) ∧ Ch wA w'' (fun k => k = g)) := ⟨fun w' hb' => by
      have hb : Below wA.heap.size wA w' := hb'
      refine (lzGet_again g 1 f (digB n) w' ((hb.block g hgs).trans hC)).mono ?_
      rintro e w'' ⟨rfl, hC2, hc2⟩
      refine ⟨rfl, ⟨?_, ?_⟩, (Ch.of_below hb _).trans hc2 (fun _ _ h => h)⟩
      · refine ⟨L, clock, MapN.ch (S := fun k => k = g) (show MapN w' m L clock from (hb.block m (blk_lt' hM)).trans hM) hc2 hmg, hBm, fun e he => ?_⟩
        · obtain ⟨g', f', a, b, c⟩ := hL e he
          by_cases hgg : g' = g
          · subst hgg
            have hcc : CellR w' g' 1 0 1 f (digB n) := (hb.block g' hgs).trans hC
            have hcd : CellR w' g' 1 0 1 f' (digB e.n) := (hb.block g' hgs).trans c
            unfold CellR at hcc hcd
            have hee : cellL 1 0 1 f (digB n) = cellL 1 0 1 f' (digB e.n) := by
              have := hcc.symm.trans hcd
              injection this with this
              injection this with this
              exact Array.toList_inj.2 this
            unfold cellL at hee
            injection hee with _ hee
            injection hee with _ hee
            injection hee with _ hee
            injection hee with _ hee
            injection hee with e1 hee
            injection hee with e2 hee
            injection e2 with e2
            exact ⟨g', f, a, b, by rw [← e2]; exact hC2⟩
          · exact ⟨g', f', a, b, ((show CellR w' g' 1 0 1 f' (digB e.n) from (hb.block g' (blk_lt' c)).trans c)).ch hc2 hgg⟩
      · have q1 : Ch w w' (fun k => B ≤ k ∧ DigS w k) := Ch.of_below (two_belowM hbA hb) _
        refine q1.trans hc2 (fun k hk e => ?_)
        subst e
        exact ⟨hg, hDSA _ hk hgw⟩⟩
    clear hL hM h2 h1 he0 ev hC hgs hgw hnA hRA hbA hDSA hDA hb0A hb0 hD hR hE0
    clear hRg hng hmg
    have hk0 : Ch wA wA.drew (fun k => k = g) := Ch.of_below (HeldM.drew _) _
    have hk1 : Ch wA wA.drew.drew (fun k => k = g) := Ch.of_below (below_drew1 (HeldM.drew _)) _
    have hh1 : HeldM wA wA.drew.drew := below_drew1 (HeldM.drew _)
    have hk := HS.out
    go_enter Tryd.func62, Tryd.ntmps62
    go_upto_region 1 with (fail)
    rw [← HGN.out, ← HWA.out]
    go_region_held3 (fun w' => w'.cell? ⟨R, 33, none⟩ = some (.map (some m)) ∧ w'.cell? ⟨gn, 0, none⟩ = some (.int .i64 n) ∧ (Instr.lookup 74 (.map (some m)) (.int .i64 n) false).run Tryd.prog w' = .ok (.pointer (some ⟨g, 0, none⟩)) w') (exact HS.out _ (by assumption)) (fail)
    go_wp2_with fail
    go_region_held3 (fun w' => w'.cell? ⟨R, 33, none⟩ = some (.map (some m)) ∧ w'.cell? ⟨gn, 0, none⟩ = some (.int .i64 n) ∧ (Instr.lookup 74 (.map (some m)) (.int .i64 n) false).run Tryd.prog w' = .ok (.pointer (some ⟨g, 0, none⟩)) w') (exact HS.out _ (by assumption))
     ((go_at_call 77; ((with_reducible refine (HG.out _ hh1).mono ?_); rintro e wn ⟨rfl, hDz, hCz⟩)))
    go_wp2_with fail
    go_ret
    exact ⟨rfl, hDz⟩
end Go.Proofs.YthdinhgadefgaaaDoor.K
