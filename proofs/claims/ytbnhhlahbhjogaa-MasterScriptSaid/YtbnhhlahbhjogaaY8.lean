/- The master: wins, Winners, run, ends. WRITTEN BY wip/gen_y8.py. -/
import Derived.Test.YtbnhhlahbhjogaaY7
import Derived.Test.YtbnhhlahbhjogaaJ7
import Derived.Deep.QuietTactic
import Derived.BigQuiet
set_option linter.unusedVariables false
set_option linter.unusedSimpArgs false
set_option maxRecDepth 100000
namespace Go.Proofs.Ytbnhhlahbhjogaa.K
open Go.RowKit Go.Proofs.YtbnhhlahbhjogaaW.PrintWords Go.Proofs.YtbnhhlahbhjogaaW.PrintLast Go.Proofs.YtbnhhlahbhjogaaW.PrintMore Go.Proofs.Ytbnhhlahbhjogaa.U Go.Proofs.Ytbnhhlahbhjogaa.T

theorem spCells_set2 (zs : List SpV) (k j : Nat) (hk : k < zs.length) (hj : j < 6) (v : Value) (z1 z2 : SpV) (h : rawS z2 = (rawS z1).set j v) : (spCells (zs.set k z1)).set (k * 6 + j) v = spCells (zs.set k z2) := by
  rw [spCells_set (zs.set k z1) k j (by rw [List.length_set]; exact hk) hj v z2 (by rw [List.getElem_set_self]; exact h), List.set_set]
/-- A split is won. -/
def winK (m : MaS) (k : Nat) (att : Int) (l : List Int) : MaS := { m with sp := m.sp.set k { m.sp.getD k zeroS with won := true, att := att, counts := l } }
section
variable {w w' : World} {gM gS gT : Nat} {F S : Nat → Prop} {c : CfgD} {h : CfH} {zs : List SpV} {C : List Int} {ok : Nat → Prop} {m : MaS}
theorem MaP.putZ (p : MaP w gM gS gT F c h zs C ok m) (k : Nat) (hk : k < zs.length) (z' : SpV) (hc : Ch w w' (fun i => i = gS)) (hb : w'.heap[gS]? = some (.cells (spCells (zs.set k z')).toArray 106 (0, 0))) (hcnt : z'.s.won = true → Kd.R kI 3 w 0 ok z'.cv z'.s.counts ∧ (z'.s.counts.length : Int) = c.job.parts) :
    MaP w' gM gS gT F c h (zs.set k z') C ok { m with sp := m.sp.set k z'.s } where
  blk := hc.blk p.blk p.neS
  row := hb
  tal := p.tal.ch hc (fun e => p.neU e.symm)
  sp := by rw [List.map_set, p.sp]
  cfg := p.cfg.step (fun i hi hlt => hc.block i hlt (p.okF i hi).2.2.1)
  cnt z hz hw := by
    have hst : ∀ i, ok i → i < w.heap.size → w'.heap[i]? = w.heap[i]? := fun i hi hlt => hc.block i hlt (p.okF i hi).2.2.1
    rcases List.mem_or_eq_of_mem_set hz with h1 | h1
    · exact ⟨Kd.R_step (p.cnt z h1 hw).1 hst, (p.cnt z h1 hw).2⟩
    · subst h1
      exact ⟨Kd.R_step (hcnt hw).1 hst, (hcnt hw).2⟩
  okF := p.okF
  fM := p.fM
  fS := p.fS
  fT := p.fT
  neS := p.neS
  neT := p.neT
  neU := p.neU
  flt i hi := Nat.lt_of_lt_of_le (p.flt i hi) hc.size
  len := by show (m.sp.set k z'.s).length = _; rw [List.length_set]; exact p.len
  rd := p.rd
  may := p.may
theorem mWins_no (p : MaP w gM gS gT F c h zs C ok m) (n att : Int) (v : Value) (ho : openN m n = none) : Calls Try.prog 43 #[.pointer (some ⟨gM, 0, none⟩), .int .i64 n, .int .i64 att, v] w fun e w' => e = .returned (.bool false) ∧ w' = w := by
  have HO := Aside0.mk (mOpen p n)
  rw [ho] at HO
  clear p ho
  go_enter Try.func43, Try.ntmps43
  go_wp2_with fail
  refine HO.out.mono ?_
  rintro e w1 ⟨rfl, rfl⟩
  go_wp2_with fail
  go_ret
  exact ⟨rfl, rfl⟩
set_option maxHeartbeats 1600000 in
theorem mWins (p : MaP w gM gS gT F c h zs C ok m) (n att : Int) (k : Nat) (A : Option Addr) (cp : Nat) (l : List Int) (ho : openN m n = some k) (hr : Kd.C kI w A l.length l) (hl : l.length ≤ 100000000) (hp : (l.length : Int) = c.job.parts) :
    Calls Try.prog 43 #[.pointer (some ⟨gM, 0, none⟩), .int .i64 n, .int .i64 att, .slice A l.length cp] w fun e w' => e = .returned (.bool true) ∧ (∃ F' zs' ok', MaP w' gM gS gT F' c h zs' C ok' (winK m k att l) ∧ (∀ i, F' i → F i ∨ w.heap.size ≤ i)) ∧ Ch w w' F := by
  have hk : k < c.job.splits.length := by
    unfold openN at ho
    split at ho
    · rename_i hh
      injection ho with ho
      have := p.len
      omega
    · cases ho
  obtain ⟨cv, hz, f0, f1, f2, f3, f4, f5⟩ := p.split k hk
  have hkz : k < zs.length := by rw [p.zlen]; exact hk
  have HO := Aside0.mk (mOpen p n)
  rw [ho] at HO
  have HC := Aside0.mk (cloneI A cp l w hr hl)
  obtain ⟨s, hs⟩ : ∃ s, s = m.sp.getD k zeroS := ⟨_, rfl⟩
  rw [← hs] at hz
  have HEND : Aside0 (∀ (w1 : World) (v : Value), Own kI 3 w1 w.heap.size v l → Below w.heap.size w w1 → ∀ wE, wE = (((w1.setCell ⟨gS, k * 6 + 3, none⟩ (.bool true)).setCell ⟨gS, k * 6 + 4, none⟩ (.int .i64 att)).setCell ⟨gS, k * 6 + 5, none⟩ v) →
      (∃ F' zs' ok', MaP wE gM gS gT F' c h zs' C ok' (winK m k att l) ∧ (∀ i, F' i → F i ∨ w.heap.size ≤ i)) ∧ Ch w wE F) := ⟨fun w1 v hO hb wE hE => by
    have p1 := (p.below hb).more (F' := fun i => F i ∨ (w.heap.size ≤ i ∧ i < w1.heap.size)) (ok' := fun i => ok i ∨ (w.heap.size ≤ i ∧ i < w1.heap.size)) (fun _ hi => .inl hi) (fun _ hi => .inl hi) (fun i hi => by
      rcases hi with hi | hi
      · exact ⟨.inl (p.okF i hi).1, (p.okF i hi).2⟩
      · have h1 := p.flt _ p.fM
        have h2 := p.flt _ p.fS
        have h3 := p.flt _ p.fT
        exact ⟨.inr hi, by omega, by omega, by omega⟩) (fun i hi => by
      rcases hi with hi | hi
      · exact Nat.lt_of_lt_of_le (p.flt i hi) hb.size
      · exact hi.2)
    have hc3 : Ch w1 wE (fun i => i = gS) := by
      rw [hE]
      exact ((((Ch.refl w1 (fun i => i = gS)).setCell ⟨gS, k * 6 + 3, none⟩ (.bool true) rfl).setCell ⟨gS, k * 6 + 4, none⟩ (.int .i64 att) rfl).setCell ⟨gS, k * 6 + 5, none⟩ v rfl)
    have hbE : wE.heap[gS]? = some (.cells (spCells (zs.set k ⟨{ s with won := true, att := att, counts := l }, v⟩)).toArray 106 (0, 0)) := by
      rw [hE]
      have b3 := setCell_blk (j := k * 6 + 3) p1.row (.bool true)
      rw [spCells_set zs k 3 hkz (by omega) (.bool true) ⟨{ s with won := true }, cv⟩ (by rw [hz]; rfl)] at b3
      have b4 := setCell_blk (j := k * 6 + 4) b3 (.int .i64 att)
      rw [spCells_set2 zs k 4 hkz (by omega) (.int .i64 att) ⟨{ s with won := true }, cv⟩ ⟨{ s with won := true, att := att }, cv⟩ rfl] at b4
      have b5 := setCell_blk (j := k * 6 + 5) b4 v
      rw [spCells_set2 zs k 5 hkz (by omega) v ⟨{ s with won := true, att := att }, cv⟩ ⟨{ s with won := true, att := att, counts := l }, v⟩ rfl] at b5
      exact b5
    have p2 := p1.putZ k hkz ⟨{ s with won := true, att := att, counts := l }, v⟩ hc3 hbE (fun _ => ⟨Kd.R_mono (Kd.R_lower (Kd.R_bound hO) (Nat.zero_le _)) (fun i hi => .inr ⟨hi.2.1, hi.2.2.1⟩), hp⟩)
    refine ⟨⟨_, _, _, by unfold winK; rw [← hs]; exact p2, fun i hi => ?_⟩, (Ch.of_below hb F).trans hc3 (fun i _ hi => by rw [hi]; exact p.fS)⟩
    rcases hi with hi | hi
    · exact .inl hi
    · exact .inr hi.1⟩
  have hfz : ∀ w1, Below w.heap.size w w1 → ∀ j, w1.frozen? ⟨gS, j, none⟩ = false := fun w1 hb j => (p.below hb).frS j
  have hcl : ∀ w1, Below w.heap.size w w1 → w1.cell? ⟨gS, k * 6 + 3, none⟩ = some (.bool s.won) ∧ w1.cell? ⟨gS, k * 6 + 4, none⟩ = some (.int .i64 s.att) ∧ w1.cell? ⟨gS, k * 6 + 5, none⟩ = some cv := fun w1 hb => by
    rw [hs]
    exact ⟨(hb.cell (World.block_lt_of_cell? _ _ f3)).trans f3, (hb.cell (World.block_lt_of_cell? _ _ f4)).trans f4, (hb.cell (World.block_lt_of_cell? _ _ f5)).trans f5⟩
  clear p ho hr hs hz f0 f1 f2 f3 f4 f5
  go_enter Try.func43, Try.ntmps43
  go_wp2_with fail
  refine HO.out.mono ?_
  rintro e w1 ⟨rfl, rfl⟩
  go_wp2_with fail
  refine HC.out.mono ?_
  rintro e w2 ⟨v, rfl, hO, hb⟩
  obtain ⟨Av, cv2, rfl, _, _⟩ := hO.reads
  obtain ⟨q3, q4, q5⟩ := hcl w2 hb
  have z3 := hfz w2 hb (k * 6 + 3)
  have z4 := hfz w2 hb (k * 6 + 4)
  have z5 := hfz w2 hb (k * 6 + 5)
  have HE := Aside0.mk (HEND.out w2 _ hO hb)
  clear hO hb hcl hfz
  go_wp2_with fail
  go_ret
  exact ⟨rfl, HE.out _ rfl⟩
end
end Go.Proofs.Ytbnhhlahbhjogaa.K
