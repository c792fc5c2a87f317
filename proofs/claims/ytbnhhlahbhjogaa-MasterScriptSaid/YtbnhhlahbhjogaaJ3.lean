/- Jobs and configurations as they are read. -/
import Derived.Test.YtbnhhlahbhjogaaJ2
import Derived.Test.YtbnhhlahbhjogaaKR
set_option linter.unusedVariables false
set_option linter.unusedSimpArgs false
namespace Go.Proofs.Ytbnhhlahbhjogaa.T
open Go.RowKit Go.Proofs.YtbnhhlahbhjogaaW.PrintWords Go.Proofs.YtbnhhlahbhjogaaW.PrintLast Go.Proofs.YtbnhhlahbhjogaaW.PrintMore Go.Proofs.Ytbnhhlahbhjogaa.U Go.Proofs.Ytbnhhlahbhjogaa.K
/-- A job; a configuration. -/
structure JobD where
  splits : List (List PairD)
  parts : Int
  map : List InsD
  combine : List InsD
  reduce : List InsD
  chunk : Int
  window : Int
  fuel : Int
  marks : List Int
structure CfgD where
  job : JobD
  workers : Int
  tries : Int
  timeout : Int
def kJob : Kd JobD := Kd.iso (Kd.pair (Kd.slice 43 kRows) (Kd.pair (Kd.int .i64) (Kd.pair (Kd.slice 115 kIns) (Kd.pair (Kd.slice 115 kIns) (Kd.pair (Kd.slice 115 kIns) (Kd.pair (Kd.int .i64) (Kd.pair (Kd.int .i64) (Kd.pair (Kd.int .i64) (Kd.slice 3 (Kd.int .i64)))))))))) (fun j => (j.splits, j.parts, j.map, j.combine, j.reduce, j.chunk, j.window, j.fuel, j.marks))
def kCfg : Kd CfgD := Kd.iso (Kd.pair kJob (Kd.pair (Kd.int .i64) (Kd.pair (Kd.int .i64) (Kd.int .i64)))) (fun c => (c.job, c.workers, c.tries, c.timeout))
def W64 (n : Int) : Prop := (Lit.int .i64 n).wf = true
def GJob (j : JobD) : Prop := (∀ l ∈ j.splits, ∀ x ∈ l, GPair x) ∧ W64 j.parts ∧ (∀ x ∈ j.map, GIns x) ∧ (∀ x ∈ j.combine, GIns x) ∧ (∀ x ∈ j.reduce, GIns x) ∧ W64 j.chunk ∧ W64 j.window ∧ W64 j.fuel ∧ ∀ x ∈ j.marks, W64 x
def GCfg (c : CfgD) : Prop := GJob c.job ∧ W64 c.workers ∧ W64 c.tries ∧ W64 c.timeout
theorem open_22 : Opens Try.prog 22 (Kd.slice 43 kRows) (fun xs => ∀ l ∈ xs, ∀ x ∈ l, GPair x) := Opens.slice 43 Try.underlying22 (by kernel_rfl) open_43
theorem open_23 : Opens Try.prog 23 (Kd.slice 115 kIns) (fun xs => ∀ x ∈ xs, GIns x) := Opens.slice 115 Try.underlying23 (by kernel_rfl) open_115
theorem open_24 : Opens Try.prog 24 (Kd.slice 3 (Kd.int .i64)) (fun xs => ∀ x ∈ xs, W64 x) := Opens.slice 3 Try.underlying24 (by kernel_rfl) (Opens.int Try.underlying3)
theorem open_26 : Opens Try.prog 26 kJob GJob :=
  Opens.iso (Opens.struct Try.underlying26 (by kernel_rfl) (OpensF.cons open_22 rfl (by kernel_rfl) rfl (OpensF.cons (Opens.int Try.underlying3) rfl (by kernel_rfl) rfl (OpensF.cons open_23 rfl (by kernel_rfl) rfl (OpensF.cons open_23 rfl (by kernel_rfl) rfl (OpensF.cons open_23 rfl (by kernel_rfl) rfl (OpensF.cons (Opens.int Try.underlying3) rfl (by kernel_rfl) rfl (OpensF.cons (Opens.int Try.underlying3) rfl (by kernel_rfl) rfl (OpensF.cons (Opens.int Try.underlying3) rfl (by kernel_rfl) rfl (OpensF.one open_24 rfl (by kernel_rfl))))))))))) _ (fun p => ⟨p.1, p.2.1, p.2.2.1, p.2.2.2.1, p.2.2.2.2.1, p.2.2.2.2.2.1, p.2.2.2.2.2.2.1, p.2.2.2.2.2.2.2.1, p.2.2.2.2.2.2.2.2⟩) (fun _ => rfl)
theorem open_28 : Opens Try.prog 28 kCfg GCfg :=
  Opens.iso (Opens.struct Try.underlying28 (by kernel_rfl) (OpensF.cons open_26 rfl (by kernel_rfl) rfl (OpensF.cons (Opens.int Try.underlying3) rfl (by kernel_rfl) rfl (OpensF.cons (Opens.int Try.underlying3) rfl (by kernel_rfl) rfl (OpensF.one (Opens.int Try.underlying3) rfl (by kernel_rfl)))))) _ (fun p => ⟨p.1, p.2.1, p.2.2.1, p.2.2.2⟩) (fun _ => rfl)
end Go.Proofs.Ytbnhhlahbhjogaa.T
namespace Go.Proofs.Ytbnhhlahbhjogaa.K
open Go.RowKit Go.Proofs.YtbnhhlahbhjogaaW.PrintWords Go.Proofs.YtbnhhlahbhjogaaW.PrintLast Go.Proofs.YtbnhhlahbhjogaaW.PrintMore Go.Proofs.Ytbnhhlahbhjogaa.U Go.Proofs.Ytbnhhlahbhjogaa.T

/-- A job's rows, where they stand. -/
structure JobC (w : World) (j : JobD) (A1 A2 A3 A4 A5 : Option Addr) (c1 c2 c3 c4 c5 : Nat) : Prop where
  s : Kd.C kRows w A1 j.splits.length j.splits
  m : Kd.C kIns w A2 j.map.length j.map
  c : Kd.C kIns w A3 j.combine.length j.combine
  r : Kd.C kIns w A4 j.reduce.length j.reduce
  k : Kd.C (Kd.int .i64) w A5 j.marks.length j.marks
  l1 : j.splits.length ≤ c1
  l2 : j.map.length ≤ c2
  l3 : j.combine.length ≤ c3
  l4 : j.reduce.length ≤ c4
  l5 : j.marks.length ≤ c5
theorem JobC.below {w w' : World} {j : JobD} {A1 A2 A3 A4 A5 : Option Addr} {c1 c2 c3 c4 c5 : Nat} (h : JobC w j A1 A2 A3 A4 A5 c1 c2 c3 c4 c5) (hb : Below w.heap.size w w') : JobC w' j A1 A2 A3 A4 A5 c1 c2 c3 c4 c5 :=
  ⟨Kd.C_below h.s hb, Kd.C_below h.m hb, Kd.C_below h.c hb, Kd.C_below h.r hb, Kd.C_below h.k hb, h.l1, h.l2, h.l3, h.l4, h.l5⟩
theorem kCfg_open {w : World} {x : CfgD} {cs : List Value} (h : kCfg.K w x cs) : ∃ A1 A2 A3 A4 A5 c1 c2 c3 c4 c5, cs = [.slice A1 x.job.splits.length c1, .int .i64 x.job.parts, .slice A2 x.job.map.length c2, .slice A3 x.job.combine.length c3, .slice A4 x.job.reduce.length c4, .int .i64 x.job.chunk, .int .i64 x.job.window, .int .i64 x.job.fuel, .slice A5 x.job.marks.length c5, .int .i64 x.workers, .int .i64 x.tries, .int .i64 x.timeout] ∧ JobC w x.job A1 A2 A3 A4 A5 c1 c2 c3 c4 c5 := by
  obtain ⟨_, _, rfl, ⟨_, _, rfl, ⟨A1, c1, rfl, hl1, h1⟩, ⟨_, _, rfl, rfl, ⟨_, _, rfl, ⟨A2, c2, rfl, hl2, h2⟩, ⟨_, _, rfl, ⟨A3, c3, rfl, hl3, h3⟩, ⟨_, _, rfl, ⟨A4, c4, rfl, hl4, h4⟩, ⟨_, _, rfl, rfl, ⟨_, _, rfl, rfl, ⟨_, _, rfl, rfl, ⟨A5, c5, rfl, hl5, h5⟩⟩⟩⟩⟩⟩⟩⟩⟩, ⟨_, _, rfl, rfl, ⟨_, _, rfl, rfl, rfl⟩⟩⟩ := h
  exact ⟨A1, A2, A3, A4, A5, c1, c2, c3, c4, c5, rfl, h1, h2, h3, h4, h5, hl1, hl2, hl3, hl4, hl5⟩

/-- The mark ahead of mark i; are marks in order, up to n? -/
def lastM (ms : List Int) (i : Nat) : Int := if i = 0 then 0 else ms.getD (i - 1) 0
def MarksMay (ms : List Int) (n k : Nat) : Prop := ∀ i, i < k → lastM ms i < ms.getD i 0 ∧ ms.getD i 0 ≤ n
theorem lastM_nonneg {ms : List Int} {n k : Nat} (h : MarksMay ms n k) (i : Nat) (hi : i ≤ k) : 0 ≤ lastM ms i := by
  induction i with
  | zero => exact Int.le_refl _
  | succ i ih =>
    have h1 := ih (by omega)
    have h2 := (h i (by omega)).1
    unfold lastM
    rw [if_neg (by omega), Nat.add_sub_cancel]
    omega
/-- May a job be? A configuration? -/
structure JobMay (j : JobD) : Prop where
  splits : 1 ≤ (j.splits.length : Int) ∧ (j.splits.length : Int) ≤ 6
  parts : 1 ≤ j.parts ∧ j.parts ≤ 4
  marks4 : j.marks.length ≤ 4
  each : ∀ l ∈ j.splits, l.length ≤ 8 ∧ PairsMay l
  marks : MarksMay j.marks j.splits.length j.marks.length
  map : j.map.length ≠ 0 ∧ CodeMay j.map
  reduce : j.reduce.length ≠ 0 ∧ CodeMay j.reduce
  combine : CodeMay j.combine
  chunk : 1 ≤ j.chunk ∧ j.chunk ≤ 7
  window : 1 ≤ j.window ∧ j.window ≤ 4
  fuel : 1 ≤ j.fuel ∧ j.fuel ≤ 2000
structure CfgMay (c : CfgD) : Prop where
  job : JobMay c.job
  workers : 1 ≤ c.workers ∧ c.workers ≤ 4
  tries : 1 ≤ c.tries ∧ c.tries ≤ 3
  timeout : 1 ≤ c.timeout ∧ c.timeout ≤ 50
theorem bool_of (P : Prop) : ∃ r : Bool, r = true ↔ P := by
  by_cases h : P
  · exact ⟨true, by simp [h]⟩
  · exact ⟨false, by simp [h]⟩
theorem bool_no {P : Prop} {r : Bool} (h : r = true ↔ P) (hn : ¬ P) : r = false := Bool.eq_false_iff.2 (fun e => hn (h.1 e))

set_option maxHeartbeats 800000 in
theorem refPairMay (A0 : Option Addr) (c0 : Nat) (l0 : List PairD) (w : World) (hr0 : Kd.C kPair w A0 l0.length l0) (r : Bool) (hr : r = decide (PairsMay l0)) :
    Calls Try.prog 92 #[.slice A0 l0.length c0] w fun e w' => e = .returned (.bool r) ∧ Below w.heap.size w w' := by
  have hm0 := Kd.C_max hr0
  have HR0 := Aside0.mk hr0
  have HR := Aside0.mk hr
  clear hr0 hr
  go_enter Try.func92, Try.ntmps92
  go_wp2_with fail
  go_loopg [3] l0.length (fun kq v w' => ∃ k : Nat, k + kq = l0.length ∧ v = .int .i64 k ∧ Aside0 (∀ j (hj : j < l0.length), j < k → l0[j].key.size ≤ 16 ∧ l0[j].val.size ≤ 64) ∧ Aside0 (Below w.heap.size w w'))
  case atStart => exact ⟨0, by omega, rfl, ⟨fun j hj h => by omega⟩, ⟨Below.refl _ _⟩⟩
  case round =>
    obtain ⟨k, hk, rfl, HA, HB⟩ := hrel
    by_cases hlt : k < l0.length
    · obtain ⟨ad, rfl, hx0, hx1⟩ := at_pair2 (Kd.C_below HR0.out HB.out) k hlt
      obtain ⟨x, hx⟩ : ∃ x, x = l0[k] := ⟨_, rfl⟩
      rw [← hx] at hx0 hx1
      have HX := Aside0.mk hx
      obtain ⟨a, b⟩ := x
      clear hx
      by_cases h1 : (16 : Int) < a.size
      · go_wp2_with fail
        go_ret
        exact ⟨by rw [HR.out, decide_eq_false (fun h => by have := (h _ (List.getElem_mem hlt)).1; rw [← HX.out] at this; exact absurd this (by show ¬ a.size ≤ 16; omega))]; rfl, HB.out⟩
      · by_cases h2 : (64 : Int) < b.size
        · go_wp2_with fail
          go_ret
          exact ⟨by rw [HR.out, decide_eq_false (fun h => by have := (h _ (List.getElem_mem hlt)).2; rw [← HX.out] at this; exact absurd this (by show ¬ b.size ≤ 64; omega))]; rfl, HB.out⟩
        · go_wp2_with fail
          go_roundg (l0.length - (k + 1))
          case measure => omega
          case rel => exact ⟨k + 1, by omega, by go_num, ⟨fun j hj h => by
            rcases Nat.lt_or_ge j k with h3 | h3
            · exact HA.out j hj h3
            · obtain rfl : j = k := by omega
              rw [← HX.out]
              exact ⟨by show a.size ≤ 16; omega, by show b.size ≤ 64; omega⟩⟩, HB⟩
    · obtain rfl : k = l0.length := by omega
      go_wp2_with fail
      go_ret
      refine ⟨?_, HB.out⟩
      have hp : PairsMay l0 := fun x hx => by
        obtain ⟨j, hj, rfl⟩ := List.getElem_of_mem hx
        exact HA.out j hj hj
      rw [HR.out, decide_eq_true hp]
      rfl
set_option maxHeartbeats 800000 in
theorem greatCode (A0 : Option Addr) (c0 : Nat) (l0 : List InsD) (w : World) (hr0 : Kd.C kIns w A0 l0.length l0) :
    Calls Try.prog 36 #[.slice A0 l0.length c0] w fun e w' => RetBool (fun r => r = false → l0.length ≤ 60 ∧ ∀ x ∈ l0, x.s.size ≤ 100) e ∧ Below w.heap.size w w' := by
  have hm0 := Kd.C_max hr0
  have HR0 := Aside0.mk hr0
  clear hr0
  go_enter Try.func36, Try.ntmps36
  go_wp2_with fail
  go_loopg [3] l0.length (fun kq v w' => ∃ k : Nat, k + kq = l0.length ∧ v = .int .i64 k ∧ Aside0 (∀ j (hj : j < l0.length), j < k → l0[j].s.size ≤ 100) ∧ Aside0 (Below w.heap.size w w'))
  case atStart => exact ⟨0, by omega, rfl, ⟨fun j hj h => by omega⟩, ⟨Below.refl _ _⟩⟩
  case round =>
    obtain ⟨k, hk, rfl, HA, HB⟩ := hrel
    by_cases h60 : (l0.length : Int) ≤ 60
    · by_cases hlt : k < l0.length
      · obtain ⟨ad, rfl, hx0, hx1, hx2⟩ := at_ins (Kd.C_below HR0.out HB.out) k hlt
        obtain ⟨x, hx⟩ : ∃ x, x = l0[k] := ⟨_, rfl⟩
        rw [← hx] at hx0 hx1 hx2
        have HX := Aside0.mk hx
        obtain ⟨op, a, s⟩ := x
        clear hx
        by_cases h1 : (100 : Int) < s.size
        · go_wp2_with fail
          go_ret
          exact ⟨RetBool.mk true (by simp), HB.out⟩
        · go_wp2_with fail
          go_roundg (l0.length - (k + 1))
          case measure => omega
          case rel => exact ⟨k + 1, by omega, by go_num, ⟨fun j hj h => by
            rcases Nat.lt_or_ge j k with h3 | h3
            · exact HA.out j hj h3
            · obtain rfl : j = k := by omega
              rw [← HX.out]
              show s.size ≤ 100
              omega⟩, HB⟩
      · obtain rfl : k = l0.length := by omega
        go_wp2_with fail
        go_ret
        refine ⟨RetBool.mk _ (fun _ => ⟨by omega, fun x hx => ?_⟩), HB.out⟩
        obtain ⟨j, hj, rfl⟩ := List.getElem_of_mem hx
        exact HA.out j hj hj
    · by_cases hlt : k < l0.length
      · go_wp2_with fail
        go_ret
        exact ⟨RetBool.mk true (by simp), HB.out⟩
      · go_wp2_with fail
        go_ret
        exact ⟨RetBool.mk true (by simp), HB.out⟩
end Go.Proofs.Ytbnhhlahbhjogaa.K
