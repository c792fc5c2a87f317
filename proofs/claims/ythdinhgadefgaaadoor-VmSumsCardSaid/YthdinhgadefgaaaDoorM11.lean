/- The machine: Run and Steps. -/
import Derived.Test.YthdinhgadefgaaaDoorM10
set_option linter.unusedVariables false
set_option linter.unusedSimpArgs false
set_option maxRecDepth 100000
namespace Go.Proofs.YthdinhgadefgaaaDoor.K
open Go.RowKit Go.Proofs.YthdinhgadefgaaaDoorW.PrintWords Go.Proofs.YthdinhgadefgaaaDoorW.PrintLast Go.Proofs.YthdinhgadefgaaaDoorW.PrintMore Go.Proofs.YthdinhgadefgaaaDoor.U Go.Proofs.YthdinhgadefgaaaDoor.T Go.Proofs.YthdinhgadefgaaaDoor.V

/-- A run that may be. -/
def finF (key : ByteArray) (p : List InsD) (vals : List ByteArray) (fuel : Int) : Int × St := playN key p (min fuel 2000).toNat (runs0 vals)
/-- What is told; why it ended; how many steps. -/
def toldF (key : ByteArray) (p : List InsD) (vals : List ByteArray) (fuel : Int) : List PairD := if CodeMay p ∧ 0 ≤ fuel then (if (finF key p vals fuel).1 = 0 then (finF key p vals fuel).2.told else []) else []
def whyF (key : ByteArray) (p : List InsD) (vals : List ByteArray) (fuel : Int) : Int := if CodeMay p ∧ 0 ≤ fuel then (finF key p vals fuel).1 else 2
def stepsF (key : ByteArray) (p : List InsD) (vals : List ByteArray) (fuel : Int) : Int := if CodeMay p ∧ 0 ≤ fuel then (finF key p vals fuel).2.steps else 0
theorem play_no (pA : Option Addr) (pc : Nat) (p : List InsD) (key : ByteArray) (vV : Value) (fuel : Int) (w : World) (hp : Kd.C kIns w pA p.length p) (hpc : p.length ≤ pc) (hno : ¬ (CodeMay p ∧ 0 ≤ fuel)) :
    Calls Tryd.prog 42 #[.slice pA p.length pc, .string key, vV, .int .i64 fuel] w fun e w' => e = .returned (.tuple #[.pointer none, .int .i64 2]) ∧ Below w.heap.size w w' := by
  have HPM := Aside0.mk (progMay pA pc p w hp hpc _ rfl)
  obtain ⟨r, hr⟩ : ∃ r, r = decide (CodeMay p) := ⟨_, rfl⟩
  rw [← hr] at HPM
  have hor : r = false ∨ (r = true ∧ fuel < 0) := by
    cases h : r with
    | false => exact .inl rfl
    | true =>
      refine .inr ⟨rfl, ?_⟩
      rw [h] at hr
      have := of_decide_eq_true hr.symm
      have h2 : ¬ 0 ≤ fuel := fun h0 => hno ⟨this, h0⟩
      omega
  clear hp hpc hno hr
  rcases hor with rfl | ⟨rfl, hf⟩
  all_goals
    go_enter Tryd.func42, Tryd.ntmps42
    go_wp2_with fail
    refine HPM.out.mono ?_
    rintro e w1 ⟨rfl, hb1⟩
    have HB1 := Aside0.mk hb1
    clear hb1
    go_wp2_with fail
    go_ret2
    exact ⟨rfl, HB1.out⟩
structure RunArgs (w : World) (pA : Option Addr) (pc : Nat) (p : List InsD) (vA : Option Addr) (vc : Nat) (vals : List ByteArray) (fuel : Int) : Prop where
  env : Env w
  hp : Kd.C kIns w pA p.length p
  hpc : p.length ≤ pc
  hpa : ∀ x ∈ p, In64 x.a
  hv : Kd.C Kd.string w vA vals.length vals
  hvc : vals.length ≤ vc
  hvl : vals.length ≤ 1000
  hvv : ∀ x ∈ vals, x.size ≤ 1000000
  hf2 : In64 fuel
theorem vmRun (pA : Option Addr) (pc : Nat) (p : List InsD) (key : ByteArray) (vA : Option Addr) (vc : Nat) (vals : List ByteArray) (fuel : Int) (w : World) (h : RunArgs w pA pc p vA vc vals fuel) :
    Calls Tryd.prog 32 #[.slice pA p.length pc, .string key, .slice vA vals.length vc, .int .i64 fuel] w fun e w' => ∃ A c, e = .returned (.tuple #[.slice A (toldF key p vals fuel).length c, .int .i64 (whyF key p vals fuel)]) ∧ Kd.C kPair w' A (toldF key p vals fuel).length (toldF key p vals fuel) ∧ Below w.heap.size w w' := by
  by_cases hm : CodeMay p ∧ 0 ≤ fuel
  · have HPL := Aside0.mk (play pA pc p key vA vc vals fuel w h.env h.hp h.hpc hm.1 h.hpa h.hv h.hvc h.hvl h.hvv hm.2 h.hf2)
    have ht : toldF key p vals fuel = (if (finF key p vals fuel).1 = 0 then (finF key p vals fuel).2.told else []) := if_pos hm
    have hw : whyF key p vals fuel = (finF key p vals fuel).1 := if_pos hm
    rw [ht, hw]
    obtain ⟨rr, hrr⟩ : ∃ rr, rr = finF key p vals fuel := ⟨_, rfl⟩
    have hrr2 : rr = playN key p (min fuel 2000).toNat (runs0 vals) := hrr
    rw [← hrr]
    rw [← hrr2] at HPL
    obtain ⟨why, s8⟩ := rr
    simp only at HPL ⊢
    clear ht hw hrr hrr2 h hm
    by_cases h0 : why = 0
    · subst h0
      rw [if_pos rfl]
      go_enter Tryd.func32, Tryd.ntmps32
      go_wp2_with fail
      refine HPL.out.mono ?_
      rintro e w1 ⟨R, rfl, ⟨sV, tV, vV, m, hW⟩, hok⟩
      have ct := hW.told_cell
      obtain ⟨A, c, rfl, hl, hC⟩ := hW.tld.reads
      have HW := Aside0.mk hW
      have HC := Aside0.mk hC
      clear hW hC hok
      go_wp2_with fail
      go_ret2
      exact ⟨A, c, rfl, HC.out, HW.out.bel⟩
    · rw [if_neg h0]
      have hwb : (why == 0) = false := by simpa using h0
      have hwb2 : (why != 0) = true := by simpa using h0
      clear h0
      go_enter Tryd.func32, Tryd.ntmps32
      go_wp2_with fail
      refine HPL.out.mono ?_
      rintro e w1 ⟨R, rfl, ⟨sV, tV, vV, m, hW⟩, hok⟩
      have HW := Aside0.mk hW
      clear hW hok
      go_wp2_with fail
      go_ret2
      exact ⟨none, 0, rfl, ⟨rfl, by simp, fun h => by simp at h⟩, HW.out.bel⟩
  · have HPL := Aside0.mk (play_no pA pc p key (.slice vA vals.length vc) fuel w h.hp h.hpc hm)
    have ht : toldF key p vals fuel = [] := if_neg hm
    have hw : whyF key p vals fuel = 2 := if_neg hm
    rw [ht, hw]
    clear ht hw h hm
    go_enter Tryd.func32, Tryd.ntmps32
    go_wp2_with fail
    refine HPL.out.mono ?_
    rintro e w1 ⟨rfl, hb1⟩
    have HB1 := Aside0.mk hb1
    clear hb1
    go_wp2_with fail
    go_ret2
    exact ⟨none, 0, rfl, ⟨rfl, by simp, fun h => by simp at h⟩, HB1.out⟩
theorem vmSteps (pA : Option Addr) (pc : Nat) (p : List InsD) (key : ByteArray) (vA : Option Addr) (vc : Nat) (vals : List ByteArray) (fuel : Int) (w : World) (h : RunArgs w pA pc p vA vc vals fuel) :
    Calls Tryd.prog 33 #[.slice pA p.length pc, .string key, .slice vA vals.length vc, .int .i64 fuel] w fun e w' => e = .returned (.int .i64 (stepsF key p vals fuel)) ∧ Below w.heap.size w w' := by
  by_cases hm : CodeMay p ∧ 0 ≤ fuel
  · have HPL := Aside0.mk (play pA pc p key vA vc vals fuel w h.env h.hp h.hpc hm.1 h.hpa h.hv h.hvc h.hvl h.hvv hm.2 h.hf2)
    have ht : stepsF key p vals fuel = (finF key p vals fuel).2.steps := if_pos hm
    rw [ht]
    obtain ⟨rr, hrr⟩ : ∃ rr, rr = finF key p vals fuel := ⟨_, rfl⟩
    have hrr2 : rr = playN key p (min fuel 2000).toNat (runs0 vals) := hrr
    rw [← hrr]
    rw [← hrr2] at HPL
    obtain ⟨why, s8⟩ := rr
    simp only at HPL ⊢
    clear ht hrr hrr2 h hm
    go_enter Tryd.func33, Tryd.ntmps33
    go_wp2_with fail
    refine HPL.out.mono ?_
    rintro e w1 ⟨R, rfl, ⟨sV, tV, vV, m, hW⟩, hok⟩
    have c5 : w1.cell? ⟨R, 5, none⟩ = some (.int .i64 s8.steps) := hW.cell 5
    have HW := Aside0.mk hW
    clear hW hok
    go_wp2_with fail
    go_ret
    exact ⟨rfl, HW.out.bel⟩
  · have HPL := Aside0.mk (play_no pA pc p key (.slice vA vals.length vc) fuel w h.hp h.hpc hm)
    have ht : stepsF key p vals fuel = 0 := if_neg hm
    rw [ht]
    clear ht h hm
    go_enter Tryd.func33, Tryd.ntmps33
    go_wp2_with fail
    refine HPL.out.mono ?_
    rintro e w1 ⟨rfl, hb1⟩
    have HB1 := Aside0.mk hb1
    clear hb1
    go_wp2_with fail
    go_ret
    exact ⟨rfl, HB1.out⟩
end Go.Proofs.YthdinhgadefgaaaDoor.K
