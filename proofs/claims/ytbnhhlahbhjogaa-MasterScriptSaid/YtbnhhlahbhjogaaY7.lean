/- The master: open, wins, and what it tells. -/
import Derived.Test.YtbnhhlahbhjogaaY6
import Derived.Deep.LoopGhost
set_option linter.unusedVariables false
set_option linter.unusedSimpArgs false
set_option maxRecDepth 100000
namespace Go.Proofs.Ytbnhhlahbhjogaa.K
open Go.RowKit Go.Proofs.YtbnhhlahbhjogaaW.PrintWords Go.Proofs.YtbnhhlahbhjogaaW.PrintLast Go.Proofs.YtbnhhlahbhjogaaW.PrintMore Go.Proofs.Ytbnhhlahbhjogaa.U Go.Proofs.Ytbnhhlahbhjogaa.T
attribute [local go_sem] max2_int min2_int

def openN (m : MaS) (n : Int) : Option Nat := if 0 ≤ n ∧ n < m.sp.length ∧ (m.sp.getD n.toNat zeroS).won = false then some n.toNat else none
section
variable {w w' : World} {gM gS gT : Nat} {F S : Nat → Prop} {c : CfgD} {h : CfH} {zs : List SpV} {C : List Int} {ok : Nat → Prop} {m : MaS}
theorem MaP.c_sp (p : MaP w gM gS gT F c h zs C ok m) : w.cell? ⟨gM, 13, none⟩ = some (.slice (some ⟨gS, 0, none⟩) c.job.splits.length c.job.splits.length) := cell_of_blk p.blk
theorem MaP.c_now (p : MaP w gM gS gT F c h zs C ok m) : w.cell? ⟨gM, 12, none⟩ = some (.int .i64 m.now) := cell_of_blk p.blk
theorem MaP.c_st (p : MaP w gM gS gT F c h zs C ok m) : w.cell? ⟨gM, 18, none⟩ = some (.int .i64 m.st) := cell_of_blk p.blk
theorem MaP.c_why (p : MaP w gM gS gT F c h zs C ok m) : w.cell? ⟨gM, 19, none⟩ = some (.int .i64 m.why) := cell_of_blk p.blk
theorem MaP.c_round (p : MaP w gM gS gT F c h zs C ok m) : w.cell? ⟨gM, 20, none⟩ = some (.int .i64 m.round) := cell_of_blk p.blk
theorem MaP.c_tal (p : MaP w gM gS gT F c h zs C ok m) : w.cell? ⟨gM, 21, none⟩ = some (.pointer (some ⟨gT, 0, none⟩)) := cell_of_blk p.blk
theorem MaP.c_wk (p : MaP w gM gS gT F c h zs C ok m) : w.cell? ⟨gM, 9, none⟩ = some (.int .i64 c.workers) := cell_of_blk p.blk
theorem MaP.c_tr (p : MaP w gM gS gT F c h zs C ok m) : w.cell? ⟨gM, 10, none⟩ = some (.int .i64 c.tries) := cell_of_blk p.blk
theorem MaP.c_tmo (p : MaP w gM gS gT F c h zs C ok m) : w.cell? ⟨gM, 11, none⟩ = some (.int .i64 c.timeout) := cell_of_blk p.blk
theorem MaP.c_parts (p : MaP w gM gS gT F c h zs C ok m) : w.cell? ⟨gM, 1, none⟩ = some (.int .i64 c.job.parts) := cell_of_blk p.blk
theorem add6 (g k : Nat) : (⟨g, 0, none⟩ : Addr).add (k * 6) = ⟨g, k * 6, none⟩ := by rw [add_plain]
theorem mOpen (p : MaP w gM gS gT F c h zs C ok m) (n : Int) : Calls Try.prog 46 #[.pointer (some ⟨gM, 0, none⟩), .int .i64 n] w fun e w' => e = .returned (.pointer ((openN m n).map fun k => ⟨gS, k * 6, none⟩)) ∧ w' = w := by
  have hc := p.c_sp
  have HP := Aside0.mk p
  have hml : (m.sp.length : Int) = (c.job.splits.length : Int) := by rw [p.len]
  have HL := Aside0.mk hml
  clear hml
  by_cases h0 : n < 0
  · have e : openN m n = none := by unfold openN; rw [if_neg (by omega)]
    rw [e]
    clear e p
    go_enter Try.func46, Try.ntmps46
    go_wp2_with fail
    go_ret
    exact ⟨rfl, rfl⟩
  · obtain ⟨k, rfl⟩ : ∃ k : Nat, n = k := ⟨n.toNat, by omega⟩
    by_cases h1 : (k : Int) < c.job.splits.length
    · have hk : k < c.job.splits.length := by omega
      obtain ⟨cv, hz, f0, f1, f2, f3, f4, f5⟩ := p.split k hk
      have ha := add6 gS k
      cases hw : (m.sp.getD k zeroS).won
      · have e : openN m k = some k := by unfold openN; rw [if_pos ⟨by omega, by rw [HL.out]; exact h1, by rw [Int.toNat_natCast]; exact hw⟩, Int.toNat_natCast]
        rw [e, Option.map_some]
        rw [hw] at f3
        clear e p hw hz f0 f1 f2 f4 f5
        go_enter Try.func46, Try.ntmps46
        go_wp2_with fail
        go_ret
        exact ⟨rfl, rfl⟩
      · have e : openN m k = none := by unfold openN; rw [if_neg (fun hh => by rw [Int.toNat_natCast, hw] at hh; exact absurd hh.2.2 (by decide))]
        rw [e]
        rw [hw] at f3
        clear e p hw hz f0 f1 f2 f4 f5
        go_enter Try.func46, Try.ntmps46
        go_wp2_with fail
        go_ret
        exact ⟨rfl, rfl⟩
    · have e : openN m k = none := by unfold openN; rw [if_neg (by rw [HL.out]; omega)]
      rw [e]
      clear e p
      go_enter Try.func46, Try.ntmps46
      go_wp2_with fail
      go_ret
      exact ⟨rfl, rfl⟩
theorem reason_ (n : Int) (w : World) : Calls Try.prog 47 #[.int .i64 n] w fun e w' => e = .returned (.bool (decide (1 ≤ n ∧ n ≤ 6))) ∧ w' = w := by
  by_cases h1 : 1 ≤ n
  · by_cases h2 : n ≤ 6
    · rw [decide_eq_true ⟨h1, h2⟩]
      go_enter Try.func47, Try.ntmps47
      go_wp2_with fail
      go_ret
      exact ⟨rfl, rfl⟩
    · rw [decide_eq_false (fun h => h2 h.2)]
      go_enter Try.func47, Try.ntmps47
      go_wp2_with fail
      go_ret
      exact ⟨rfl, rfl⟩
  · rw [decide_eq_false (fun h => h1 h.1)]
    go_enter Try.func47, Try.ntmps47
    go_wp2_with fail
    go_ret
    exact ⟨rfl, rfl⟩
theorem mNow (p : MaP w gM gS gT F c h zs C ok m) : Calls Try.prog 22 #[.pointer (some ⟨gM, 0, none⟩)] w fun e w' => e = .returned (.int .i64 m.now) ∧ w' = w := by
  have hc := p.c_now
  clear p
  go_enter Try.func22, Try.ntmps22
  go_wp2_with fail
  go_ret
  exact ⟨rfl, rfl⟩
theorem mTick (p : MaP w gM gS gT F c h zs C ok m) (h0 : 0 ≤ m.now) (h1 : m.now ≤ 1099511627776) : Calls Try.prog 23 #[.pointer (some ⟨gM, 0, none⟩)] w fun e w' => e = .returned (.tuple #[]) ∧ MaP w' gM gS gT F c h zs C ok { m with now := min (m.now + 1) 1099511627776 } ∧ Ch w w' F := by
  have hc := p.c_now
  have hf := p.frM 12
  have HP := Aside0.mk (p.putM 12 (.int .i64 (min (m.now + 1) 1099511627776)) { m with now := min (m.now + 1) 1099511627776 } rfl rfl p.rd)
  have HC := Aside0.mk (p.chM 12 (.int .i64 (min (m.now + 1) 1099511627776)))
  clear p
  obtain ⟨m', hm'⟩ : ∃ m' : MaS, m' = { m with now := min (m.now + 1) 1099511627776 } := ⟨_, rfl⟩
  rw [← hm'] at HP ⊢
  clear hm'
  by_cases h : m.now + 1 ≤ 1099511627776
  · rw [show min (m.now + 1) 1099511627776 = m.now + 1 from by omega] at HP HC
    go_enter Try.func23, Try.ntmps23
    go_wp2_with fail
    go_end0
    exact ⟨rfl, HP.out, HC.out⟩
  · rw [show min (m.now + 1) 1099511627776 = 1099511627776 from by omega] at HP HC
    go_enter Try.func23, Try.ntmps23
    go_wp2_with fail
    go_end0
    exact ⟨rfl, HP.out, HC.out⟩
theorem mState (p : MaP w gM gS gT F c h zs C ok m) : Calls Try.prog 16 #[.pointer (some ⟨gM, 0, none⟩)] w fun e w' => e = .returned (.tuple #[.int .i64 m.st, .int .i64 m.why]) ∧ Below w.heap.size w w' := by
  have hc1 := p.c_st
  have hc2 := p.c_why
  clear p
  go_enter Try.func16, Try.ntmps16
  go_wp2_with fail
  go_region
  go_wp2_with fail
  go_ret2
  exact ⟨rfl, below_drew w⟩
/-- Who won. -/
def winV (m : MaS) (n : Int) : Int × Bool := if 0 ≤ n ∧ n < m.sp.length ∧ (m.sp.getD n.toNat zeroS).won = true then ((m.sp.getD n.toNat zeroS).att, true) else (0, false)
theorem mWinner (p : MaP w gM gS gT F c h zs C ok m) (n : Int) : Calls Try.prog 33 #[.pointer (some ⟨gM, 0, none⟩), .int .i64 n] w fun e w' => e = .returned (.tuple #[.int .i64 (winV m n).1, .bool (winV m n).2]) ∧ w' = w := by
  have hc := p.c_sp
  have HP := Aside0.mk p
  have hml : (m.sp.length : Int) = (c.job.splits.length : Int) := by rw [p.len]
  have HL := Aside0.mk hml
  clear hml
  by_cases h0 : n < 0
  · have e : winV m n = (0, false) := by unfold winV; rw [if_neg (by omega)]
    rw [e]
    clear e p
    go_enter Try.func33, Try.ntmps33
    go_wp2_with fail
    go_ret2
    exact ⟨rfl, rfl⟩
  · obtain ⟨k, rfl⟩ : ∃ k : Nat, n = k := ⟨n.toNat, by omega⟩
    by_cases h1 : (k : Int) < c.job.splits.length
    · have hk : k < c.job.splits.length := by omega
      obtain ⟨cv, hz, f0, f1, f2, f3, f4, f5⟩ := p.split k hk
      have ha := add6 gS k
      cases hw : (m.sp.getD k zeroS).won
      · have e : winV m k = (0, false) := by unfold winV; rw [if_neg (fun hh => by rw [Int.toNat_natCast, hw] at hh; exact absurd hh.2.2 (by decide))]
        rw [e]
        rw [hw] at f3
        clear e p hw hz f0 f1 f2 f4 f5
        go_enter Try.func33, Try.ntmps33
        go_wp2_with fail
        go_ret2
        exact ⟨rfl, rfl⟩
      · have e : winV m k = ((m.sp.getD k zeroS).att, true) := by unfold winV; rw [Int.toNat_natCast, if_pos ⟨by omega, by rw [HL.out]; exact h1, hw⟩]
        rw [e]
        rw [hw] at f3
        clear e p hw hz f0 f1 f2 f5
        go_enter Try.func33, Try.ntmps33
        go_wp2_with fail
        go_ret2
        exact ⟨rfl, rfl⟩
    · have e : winV m k = (0, false) := by unfold winV; rw [if_neg (by rw [HL.out]; omega)]
      rw [e]
      clear e p
      go_enter Try.func33, Try.ntmps33
      go_wp2_with fail
      go_ret2
      exact ⟨rfl, rfl⟩
end
end Go.Proofs.Ytbnhhlahbhjogaa.K
