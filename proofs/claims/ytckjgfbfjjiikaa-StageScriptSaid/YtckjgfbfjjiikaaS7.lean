/- Acts of a stage as they are read; the statement StageNone. -/
import Derived.Test.YtckjgfbfjjiikaaS6
set_option linter.unusedVariables false
set_option linter.unusedSimpArgs false
set_option maxRecDepth 100000
namespace Go.Proofs.Ytckjgfbfjjiikaa.T
open Go.RowKit Go.Proofs.YtckjgfbfjjiikaaW.PrintWords Go.Proofs.YtckjgfbfjjiikaaW.PrintLast Go.Proofs.YtckjgfbfjjiikaaW.PrintMore Go.Proofs.Ytckjgfbfjjiikaa.U Go.Proofs.Ytckjgfbfjjiikaa.K
/-- An act. -/
structure SActD where
  act : Int
  split : Int
  att : Int
  seq : Int
  ps : List PairD
def kSAct : Kd SActD := Kd.iso (Kd.pair (Kd.int .i64) (Kd.pair (Kd.int .i64) (Kd.pair (Kd.int .i64) (Kd.pair (Kd.int .i64) (Kd.slice 80 kPair))))) (fun x => (x.act, x.split, x.att, x.seq, x.ps))
def GSAct (x : SActD) : Prop := (Lit.int .i64 x.act).wf = true ∧ (Lit.int .i64 x.split).wf = true ∧ (Lit.int .i64 x.att).wf = true ∧ (Lit.int .i64 x.seq).wf = true ∧ ∀ p ∈ x.ps, GPair p
theorem open_47 : Opens Try.prog 47 kSAct GSAct :=
  Opens.iso (Opens.struct Try.underlying47 (by kernel_rfl) (OpensF.cons (Opens.int Try.underlying3) rfl (by kernel_rfl) rfl (OpensF.cons (Opens.int Try.underlying3) rfl (by kernel_rfl) rfl (OpensF.cons (Opens.int Try.underlying3) rfl (by kernel_rfl) rfl (OpensF.cons (Opens.int Try.underlying3) rfl (by kernel_rfl) rfl (OpensF.one open_45 rfl (by kernel_rfl))))))) _ (fun p => ⟨p.1, p.2.1, p.2.2.1, p.2.2.2.1, p.2.2.2.2⟩) (fun _ => rfl)
end Go.Proofs.Ytckjgfbfjjiikaa.T
namespace Go.Proofs.Ytckjgfbfjjiikaa.K
open Go.RowKit Go.Proofs.YtckjgfbfjjiikaaW.PrintWords Go.Proofs.YtckjgfbfjjiikaaW.PrintLast Go.Proofs.YtckjgfbfjjiikaaW.PrintMore Go.Proofs.Ytckjgfbfjjiikaa.U Go.Proofs.Ytckjgfbfjjiikaa.T

theorem kSAct_open {w : World} {x : SActD} {cs : List Value} (h : kSAct.K w x cs) : ∃ A c, cs = [.int .i64 x.act, .int .i64 x.split, .int .i64 x.att, .int .i64 x.seq, .slice A x.ps.length c] ∧ x.ps.length ≤ c ∧ Kd.C kPair w A x.ps.length x.ps := by
  obtain ⟨_, _, rfl, rfl, ⟨_, _, rfl, rfl, ⟨_, _, rfl, rfl, ⟨_, _, rfl, rfl, ⟨A, c, rfl, hl, h⟩⟩⟩⟩⟩ := h
  exact ⟨A, c, rfl, hl, h⟩
theorem at_sact {w : World} {A : Option Addr} {n : Nat} {xs : List SActD} (h : Kd.C kSAct w A n xs) (k : Nat) (hk : k < xs.length) : ∃ ad A1 c1, A = some ad ∧ w.cell? (ad.add (k * 5)) = some (.int .i64 xs[k].act) ∧ w.cell? ⟨(ad.add (k * 5)).block, (ad.add (k * 5)).off + 1, none⟩ = some (.int .i64 xs[k].split) ∧ w.cell? ⟨(ad.add (k * 5)).block, (ad.add (k * 5)).off + 2, none⟩ = some (.int .i64 xs[k].att) ∧ w.cell? ⟨(ad.add (k * 5)).block, (ad.add (k * 5)).off + 3, none⟩ = some (.int .i64 xs[k].seq) ∧ w.cell? ⟨(ad.add (k * 5)).block, (ad.add (k * 5)).off + 4, none⟩ = some (.slice A1 xs[k].ps.length c1) ∧ xs[k].ps.length ≤ c1 ∧ Kd.C kPair w A1 xs[k].ps.length xs[k].ps := by
  obtain ⟨ad, c, e, hl, hK, hc⟩ := Kd.C_get h ⟨0, 0, 0, 0, []⟩ (k : Int) (by omega) (by have := Kd.C_len h; omega)
  obtain ⟨A1, c1, rfl, hle, hC⟩ := kSAct_open hK
  have e2 : xs.getD (k : Int).toNat ⟨0, 0, 0, 0, []⟩ = xs[k] := by rw [Int.toNat_natCast]; simp [List.getD_eq_getElem?_getD, hk]
  rw [e2] at hle hC hc
  have h0 := hc 0 _ rfl
  have h1 := hc 1 _ rfl
  have h2 := hc 2 _ rfl
  have h3 := hc 3 _ rfl
  have h4 := hc 4 _ rfl
  rw [Int.toNat_natCast] at h0 h1 h2 h3 h4
  exact ⟨ad, A1, c1, e, h0, (by rw [← add_add'] at h1; exact h1), (by rw [← add_add'] at h2; exact h2), (by rw [← add_add'] at h3; exact h3), (by rw [← add_add'] at h4; exact h4), hle, hC⟩

set_option maxHeartbeats 800000 in
theorem great18 (A0 : Option Addr) (c0 : Nat) (l0 : List SActD) (m : Int) (w : World) (hr0 : Kd.C kSAct w A0 l0.length l0) (hg0 : ∀ x ∈ l0, GSAct x) :
    Calls Try.prog 25 #[.slice A0 l0.length c0, .int .i64 m] w fun e w' => RetBool (fun r => r = false → (l0.length : Int) ≤ m ∧ ∀ s ∈ l0, s.ps.length ≤ 20) e ∧ Below w.heap.size w w' := by
  have hm0 := Kd.C_max hr0
  have HR0 := Aside0.mk hr0
  have HG0 := Aside0.mk hg0
  clear hr0 hg0
  go_enter Try.func25, Try.ntmps25
  go_wp2_with fail
  go_loopg [5] l0.length (fun kq v5 w' => ∃ k : Nat, k + kq = l0.length ∧ v5 = .int .i64 k ∧ Aside0 (∀ j (hj : j < l0.length), j < k → l0[j].ps.length ≤ 20) ∧ Aside0 (Below w.heap.size w w'))
  case atStart => exact ⟨0, by omega, rfl, ⟨fun j hj h => by omega⟩, ⟨Below.refl _ _⟩⟩
  case round =>
    obtain ⟨k, hk, rfl, HA, HB⟩ := hrel
    by_cases hlt : k < l0.length
    · by_cases hmost : (l0.length : Int) ≤ m
      · obtain ⟨ad, A1, c1, rfl, _, _, _, _, hc, _, hC⟩ := at_sact (Kd.C_below HR0.out HB.out) k hlt
        obtain ⟨s, hs⟩ : ∃ s, s = l0[k].ps := ⟨_, rfl⟩
        rw [← hs] at hc hC
        have hG : ∀ p ∈ s, GPair p := by rw [hs]; exact (HG0.out _ (List.getElem_mem hlt)).2.2.2.2
        have HS := Aside0.mk hs
        have HC := Aside0.mk hC
        have HGG := Aside0.mk hG
        clear hs hC hG
        go_wp2_with fail
        refine (greatPairs A1 c1 s 20 wr HC.out HGG.out).mono ?_
        rintro e w1 ⟨⟨r, rfl, hr⟩, hb1⟩
        have HB1 := Aside0.mk (two_ands _ _ _ HB.out hb1)
        clear hb1
        cases r with
        | true =>
          go_wp2_with fail
          go_ret
          exact ⟨RetBool.mk true (by simp), HB1.out⟩
        | false =>
          have h20 := (hr rfl).1
          have HL : Aside0 (s.length ≤ 20) := ⟨by omega⟩
          clear hr h20
          go_wp2_with fail
          go_roundg (l0.length - (k + 1))
          case measure => omega
          case rel => exact ⟨k + 1, by omega, by go_num, ⟨fun j hj h => by
            rcases Nat.lt_or_ge j k with h1 | h1
            · exact HA.out j hj h1
            · obtain rfl : j = k := by omega
              rw [← HS.out]
              exact HL.out⟩, HB1⟩
      · go_wp2_with fail
        go_ret
        exact ⟨RetBool.mk true (by simp), HB.out⟩
    · by_cases hmost : (l0.length : Int) ≤ m
      · go_wp2_with fail
        go_ret
        refine ⟨RetBool.mk (decide (m < (l0.length : Int))) (fun _ => ⟨hmost, fun s hs => ?_⟩), HB.out⟩
        obtain ⟨j, hj, rfl⟩ := List.getElem_of_mem hs
        exact HA.out j hj (by omega)
      · go_wp2_with fail
        go_ret
        exact ⟨RetBool.mk true (by simp), HB.out⟩

set_option maxHeartbeats 1600000 in
theorem stageNone_walk (W : World) (x : SActD) (cs : List Value) (hk : kSAct.K W x cs) (hg : GSAct x) :
    Calls Try.prog 9 #[.agg cs.toArray] W fun e w' => e = .returned (.bool true) ∧ Below W.heap.size W w' := by
  obtain ⟨A, c, rfl, hle, hC⟩ := kSAct_open hk
  obtain ⟨a, sp, at', sq, ps⟩ := x
  have HC := Aside0.mk hC
  have HG := Aside0.mk hg.2.2.2.2
  clear hk hg hC
  obtain ⟨g, hg⟩ : ∃ g, g = W.heap.size := ⟨_, rfl⟩
  obtain ⟨w1, hw1⟩ : ∃ w1, w1 = W.alloc (.cells #[.int .i64 a, .int .i64 sp, .int .i64 at', .int .i64 sq, .slice A ps.length c] 47) := ⟨_, rfl⟩
  have hk1 : w1.heap[g]? = some (.cells ([.int .i64 a, .int .i64 sp, .int .i64 at', .int .i64 sq, .slice A ps.length c] : List Value).toArray 47 (0, 0)) := by rw [hw1, hg]; exact alloc_at W _
  have hb1 := (Below.refl W.heap.size W).alloc (Nat.le_refl _) (.cells #[.int .i64 a, .int .i64 sp, .int .i64 at', .int .i64 sq, .slice A ps.length c] 47)
  rw [← hw1] at hb1
  have HC1 := Aside0.mk (Kd.C_below HC.out hb1)
  have HK1 := Aside0.mk hk1
  have HB1 := Aside0.mk hb1
  have HW1 := Aside0.mk hw1
  have HGG := Aside0.mk hg
  have hc4 : w1.cell? ⟨g, 4, none⟩ = some (.slice A ps.length c) := cell_of_blk hk1
  clear hg hw1 hk1 hb1
  go_enter Try.func9, Try.ntmps9
  go_upto_region 1 with (fail)
  rw [← HGG.out, ← HW1.out]
  go_wp2_with fail
  refine (greatPairs A c ps 20 w1 HC1.out HG.out).mono ?_
  rintro e w2 ⟨⟨r, rfl, hr⟩, hb2⟩
  have HB2 := Aside0.mk (two_ands _ _ _ HB1.out hb2)
  have HK2 := Aside0.mk ((hb2.block g (blk_lt' HK1.out)).trans HK1.out)
  clear hr hb2 hc4
  cases r with
  | true =>
    go_wp2_with fail
    refine (awake18 w2).mono ?_
    rintro e w3 ⟨rfl, hb3⟩
    have HB3 := Aside0.mk (two_ands _ _ _ HB2.out hb3)
    clear hb3
    go_wp2_with fail
    go_ret
    exact ⟨rfl, HB3.out⟩
  | false =>
    have h1 : w2.cell? ⟨g, 1, none⟩ = some (.int .i64 sp) := cell_of_blk HK2.out
    have h2 : w2.cell? ⟨g, 2, none⟩ = some (.int .i64 at') := cell_of_blk HK2.out
    have h3 : w2.cell? ⟨g, 3, none⟩ = some (.int .i64 sq) := cell_of_blk HK2.out
    have h4 : w2.cell? ⟨g, 4, none⟩ = some (.slice A ps.length c) := cell_of_blk HK2.out
    go_wp2_with fail
    refine (stTake_nil w2 sp at' 0).mono ?_
    rintro e w2 ⟨rfl, rfl⟩
    go_wp2_with fail
    refine (stPut_nil w2 sp at' sq _).mono ?_
    rintro e w3 ⟨rfl, hb3⟩
    have hk3 := (hb3.block g (blk_lt' HK2.out)).trans HK2.out
    have h1 : w3.cell? ⟨g, 1, none⟩ = some (.int .i64 sp) := cell_of_blk hk3
    have h2 : w3.cell? ⟨g, 2, none⟩ = some (.int .i64 at') := cell_of_blk hk3
    have HB3 := Aside0.mk (two_ands _ _ _ HB2.out hb3)
    clear hb3 hk3
    go_wp2_with fail
    refine (stNext_nil w3 sp at').mono ?_
    rintro e w3 ⟨rfl, rfl⟩
    go_wp2_with fail
    refine (stDrop_nil w3 sp).mono ?_
    rintro e w3 ⟨rfl, rfl⟩
    go_wp2_with fail
    refine (stCount_nil w3).mono ?_
    rintro e w3 ⟨rfl, rfl⟩
    go_wp2_with fail
    refine (awake18 w3).mono ?_
    rintro e w4 ⟨rfl, hb4⟩
    have HB4 := Aside0.mk (two_ands _ _ _ HB3.out hb4)
    clear hb4
    go_wp2_with fail
    go_ret
    exact ⟨rfl, HB4.out⟩
end Go.Proofs.Ytckjgfbfjjiikaa.K
