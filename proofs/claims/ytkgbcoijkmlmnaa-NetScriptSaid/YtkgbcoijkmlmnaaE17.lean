/- Is there more than is gone through? WRITTEN BY wip/gen_great16.py. -/
import Derived.Test.YtkgbcoijkmlmnaaE14
set_option linter.unusedVariables false
set_option linter.unusedSimpArgs false
set_option maxRecDepth 100000
namespace Go.Proofs.Ytkgbcoijkmlmnaa.K
open Go.RowKit Go.Proofs.YtkgbcoijkmlmnaaW.PrintWords Go.Proofs.YtkgbcoijkmlmnaaW.PrintLast Go.Proofs.YtkgbcoijkmlmnaaW.PrintMore Go.Proofs.Ytkgbcoijkmlmnaa.U Go.Proofs.Ytkgbcoijkmlmnaa.T

theorem cell_off {w : World} {ad : Addr} {n : Nat} {cs : List Value} (h : ∀ i u, cs[i]? = some u → w.cell? (ad.add (n + i)) = some u) (i : Nat) (u : Value) (hu : cs[i + 1]? = some u) : w.cell? ⟨(ad.add n).block, (ad.add n).off + (i + 1), none⟩ = some u := by
  have := h (i + 1) u hu
  rw [show n + (i + 1) = n + i + 1 from by omega] at this
  by_cases h0 : i = 0
  · subst h0
    rw [← add_add'] at this
    exact this
  · rw [← this]
    congr 1
    simp [Addr.add]
    split
    · simp_all
    · simp; omega
/-- An act in a row: where its cells stand. -/
theorem at_act {w : World} {A : Option Addr} {n : Nat} {xs : List NActD} (h : Kd.C kNAct w A n xs) (k : Nat) (hk : k < xs.length) : ∃ ad A1 A2 c1 c2 B1 B2 d1 d2, A = some ad ∧ MsgC w (xs[k]).l.m A1 A2 c1 c2 ∧ MsgC w (xs[k]).m.m B1 B2 d1 d2 ∧
    ∀ i u, (rawA xs[k] (.slice A1 (xs[k]).l.m.set.length c1) (.slice A2 (xs[k]).l.m.prs.length c2) (.slice B1 (xs[k]).m.m.set.length d1) (.slice B2 (xs[k]).m.m.prs.length d2))[i]? = some u → w.cell? (ad.add (k * 26 + i)) = some u := by
  obtain ⟨h1, h2, h3⟩ := h
  obtain ⟨ad, e, hc⟩ := h3 (by omega)
  obtain ⟨cs, hl, hK, hcell⟩ := hc k xs[k] (List.getElem?_eq_getElem hk)
  obtain ⟨A1, A2, c1, c2, B1, B2, d1, d2, rfl, hm1, hm2⟩ := kNAct_open hK
  exact ⟨ad, A1, A2, c1, c2, B1, B2, d1, d2, e, hm1, hm2, hcell⟩
def SmallM (m : MsgD) : Prop := m.set.length ≤ 20 ∧ m.prs.length ≤ 50
set_option maxHeartbeats 3200000 in
theorem great16 (A0 : Option Addr) (c0 : Nat) (xs : List NActD) (w : World) (hr0 : Kd.C kNAct w A0 xs.length xs) (hg0 : ∀ x ∈ xs, GNAct x) (hmx : xs.length ≤ 9223372036854775807) :
    Calls Try.prog 10 #[.slice A0 xs.length c0] w fun e w' => RetBool (fun r => r = false → xs.length ≤ 100 ∧ ∀ x ∈ xs, SmallM x.l.m ∧ SmallM x.m.m) e ∧ Below w.heap.size w w' := by
  have HR0 := Aside0.mk hr0
  have HG0 := Aside0.mk hg0
  have hu := Try.underlying36
  have hum := Try.underlying34
  have hua := Try.underlying38
  clear hr0 hg0
  go_enter Try.func10, Try.ntmps10
  go_wp2_with fail
  go_loopg [3] xs.length (fun kq v3 w' => ∃ k : Nat, k + kq = xs.length ∧ v3 = .int .i64 k ∧ Aside0 (∀ x ∈ xs.take k, SmallM x.l.m ∧ SmallM x.m.m) ∧ Aside0 (Below w.heap.size w w'))
  case atStart => exact ⟨0, by omega, rfl, ⟨by simp⟩, ⟨Below.refl _ _⟩⟩
  case round =>
    obtain ⟨k, hk, rfl, HA, HB⟩ := hrel
    by_cases hmost : (xs.length : Int) ≤ 100
    case' neg =>
      have hgt : (100 : Int) < xs.length := by omega
      by_cases hlt : k < xs.length
      · have hltI : (k : Int) < xs.length := by omega
        go_wp2_with fail
        go_ret
        exact ⟨RetBool.mk true (by simp), HB.out⟩
      · have hltI : ¬ (k : Int) < xs.length := by omega
        go_wp2_with fail
        go_ret
        exact ⟨RetBool.mk true (by simp), HB.out⟩
    by_cases hlt : k < xs.length
    case' neg =>
      have hltI : ¬ (k : Int) < xs.length := by omega
      have hngt : ¬ (100 : Int) < xs.length := by omega
      go_wp2_with fail
      go_ret
      refine ⟨RetBool.mk _ (fun _ => ⟨by omega, ?_⟩), HB.out⟩
      have h := HA.out
      rw [List.take_of_length_le (by omega)] at h
      exact h
    have hltI : (k : Int) < xs.length := by omega
    have hk0 : (0 : Int) ≤ (k : Int) := by omega
    obtain ⟨ad, A1, A2, c1, c2, B1, B2, d1, d2, rfl, hm1, hm2, hc⟩ := at_act (Kd.C_below HR0.out HB.out) k hlt
    obtain ⟨x, hx⟩ : ∃ x, x = xs[k]'hlt := ⟨_, rfl⟩
    rw [← hx] at hm1 hm2 hc
    have hgx : GNAct x := by rw [hx]; exact HG0.out _ (List.getElem_mem hlt)
    have ht : xs.take (k + 1) = xs.take k ++ [x] := by rw [List.take_succ_eq_append_getElem hlt, hx]
    have HT := Aside0.mk ht
    obtain ⟨op, i_, l, m⟩ := x
    have hm1 : MsgC wr l.m A1 A2 c1 c2 := hm1
    have hm2 : MsgC wr m.m B1 B2 d1 d2 := hm2
    have hcells := cell_off hc
    obtain ⟨P, hP⟩ : ∃ P, ad.add (k * 26) = P := ⟨_, rfl⟩
    rw [hP] at hcells
    obtain ⟨g0, o0, z0⟩ := P
    have hcells : ∀ i u, (rawA ⟨op, i_, l, m⟩ (.slice A1 l.m.set.length c1) (.slice A2 l.m.prs.length c2) (.slice B1 m.m.set.length d1) (.slice B2 m.m.prs.length d2))[i + 1]? = some u → wr.cell? ⟨g0, o0 + (i + 1), none⟩ = some u := hcells
    have HG1 := Aside0.mk (greatMessage l.m A1 A2 c1 c2 wr hm1 hgx.2.2.1.2.2.2.2.2.2.2.2.2.2.2)
    have HG2 := Aside0.mk (fun w' (hb : Below wr.heap.size wr w') => greatMessage m.m B1 B2 d1 d2 w' (hm2.below hb) hgx.2.2.2.2.2.2.2.2.2.2.2.2.2.2)
    have HCL := Aside0.mk hcells
    have f2 : wr.cell? ⟨g0, o0 + 4, none⟩ = some (.int .i64 l.m.k) := hcells 3 _ rfl
    have f3 : wr.cell? ⟨g0, o0 + 5, none⟩ = some (.int .i64 l.m.s) := hcells 4 _ rfl
    have f4 : wr.cell? ⟨g0, o0 + 6, none⟩ = some (.int .i64 l.m.a) := hcells 5 _ rfl
    have f5 : wr.cell? ⟨g0, o0 + 7, none⟩ = some (.int .i64 l.m.p) := hcells 6 _ rfl
    have f6 : wr.cell? ⟨g0, o0 + 8, none⟩ = some (.int .i64 l.m.q) := hcells 7 _ rfl
    have f7 : wr.cell? ⟨g0, o0 + 9, none⟩ = some (.int .i64 l.m.n) := hcells 8 _ rfl
    have f8 : wr.cell? ⟨g0, o0 + 10, none⟩ = some (.int .i64 l.m.e) := hcells 9 _ rfl
    have f9 : wr.cell? ⟨g0, o0 + 11, none⟩ = some (.int .i64 l.m.r) := hcells 10 _ rfl
    have f10 : wr.cell? ⟨g0, o0 + 12, none⟩ = some (.slice A1 l.m.set.length c1) := hcells 11 _ rfl
    have f11 : wr.cell? ⟨g0, o0 + 13, none⟩ = some (.slice A2 l.m.prs.length c2) := hcells 12 _ rfl
    clear hm1 hm2 hc hx hgx ht hcells
    go_wp2_with fail
    refine HG1.out.mono ?_
    rintro e w1 ⟨⟨r1, rfl, hr1⟩, hb1⟩
    have HR1 := Aside0.mk hr1
    have HB1 := Aside0.mk hb1
    clear hr1 hb1 f2 f3 f4 f5 f6 f7 f8 f9 f10 f11
    cases r1
    case' true =>
      go_wp2_with fail
      go_ret
      exact ⟨RetBool.mk true (by simp), below_then HB.out HB.out.size HB1.out⟩
    have hcm : ∀ i u, (rawA ⟨op, i_, l, m⟩ (.slice A1 l.m.set.length c1) (.slice A2 l.m.prs.length c2) (.slice B1 m.m.set.length d1) (.slice B2 m.m.prs.length d2))[i + 1]? = some u → w1.cell? ⟨g0, o0 + (i + 1), none⟩ = some u := fun i u hu => (HB1.out.cell (World.block_lt_of_cell? _ _ (HCL.out i u hu))).trans (HCL.out i u hu)
    have m2 : w1.cell? ⟨g0, o0 + 16, none⟩ = some (.int .i64 m.m.k) := hcm 15 _ rfl
    have m3 : w1.cell? ⟨g0, o0 + 17, none⟩ = some (.int .i64 m.m.s) := hcm 16 _ rfl
    have m4 : w1.cell? ⟨g0, o0 + 18, none⟩ = some (.int .i64 m.m.a) := hcm 17 _ rfl
    have m5 : w1.cell? ⟨g0, o0 + 19, none⟩ = some (.int .i64 m.m.p) := hcm 18 _ rfl
    have m6 : w1.cell? ⟨g0, o0 + 20, none⟩ = some (.int .i64 m.m.q) := hcm 19 _ rfl
    have m7 : w1.cell? ⟨g0, o0 + 21, none⟩ = some (.int .i64 m.m.n) := hcm 20 _ rfl
    have m8 : w1.cell? ⟨g0, o0 + 22, none⟩ = some (.int .i64 m.m.e) := hcm 21 _ rfl
    have m9 : w1.cell? ⟨g0, o0 + 23, none⟩ = some (.int .i64 m.m.r) := hcm 22 _ rfl
    have m10 : w1.cell? ⟨g0, o0 + 24, none⟩ = some (.slice B1 m.m.set.length d1) := hcm 23 _ rfl
    have m11 : w1.cell? ⟨g0, o0 + 25, none⟩ = some (.slice B2 m.m.prs.length d2) := hcm 24 _ rfl
    clear hcm
    go_wp2_with fail
    refine (HG2.out w1 HB1.out).mono ?_
    rintro e w2 ⟨⟨r2, rfl, hr2⟩, hb2⟩
    have HR2 := Aside0.mk hr2
    have HB2 := Aside0.mk (below_then HB.out HB.out.size (below_then HB1.out HB1.out.size hb2))
    clear hr2 hb2 m2 m3 m4 m5 m6 m7 m8 m9 m10 m11
    cases r2
    case' true =>
      go_wp2_with fail
      go_ret
      exact ⟨RetBool.mk true (by simp), HB2.out⟩
    go_wp2_with fail
    go_roundg (xs.length - (k + 1))
    case measure => omega
    case rel => exact ⟨k + 1, by omega, by go_num, ⟨fun y hy => by
      rw [HT.out] at hy
      rcases List.mem_append.1 hy with h | h
      · exact HA.out y h
      · rw [List.mem_singleton.1 h]
        exact ⟨HR1.out trivial, HR2.out trivial⟩⟩, HB2⟩
end Go.Proofs.Ytkgbcoijkmlmnaa.K
