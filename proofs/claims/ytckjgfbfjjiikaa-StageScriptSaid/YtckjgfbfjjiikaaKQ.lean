/- The functions on pairs: great ones, held against one another, lent, kept, written over. -/
import Derived.Test.YtckjgfbfjjiikaaT
import Derived.Deep.LoopGhost
import Derived.Test.YtckjgfbfjjiikaaWEqStruct
import Derived.Deep.QuietTactic
import Derived.BigQuiet
set_option linter.unusedVariables false
set_option linter.unusedSimpArgs false
namespace Go.Proofs.Ytckjgfbfjjiikaa.K
open Go.RowKit Go.Proofs.YtckjgfbfjjiikaaW.PrintWords Go.Proofs.YtckjgfbfjjiikaaW.PrintLast Go.Proofs.YtckjgfbfjjiikaaW.PrintMore Go.Proofs.Ytckjgfbfjjiikaa.U Go.Proofs.Ytckjgfbfjjiikaa.T

theorem at_pair {w : World} {A : Option Addr} {n : Nat} {xs : List PairD} (h : Kd.C kPair w A n xs) (k : Nat) (hk : k < xs.length) : ∃ ad, A = some ad ∧ w.cell? (ad.add (k * 2)) = some (.string xs[k].key) ∧ w.cell? (ad.add (k * 2 + 1)) = some (.string xs[k].val) := by
  obtain ⟨ad, c, e, hl, hK, hc⟩ := Kd.C_get h ⟨ByteArray.empty, ByteArray.empty⟩ (k : Int) (by omega) (by have := Kd.C_len h; omega)
  have e1 := kPair_open hK
  have e2 : xs.getD (k : Int).toNat ⟨ByteArray.empty, ByteArray.empty⟩ = xs[k] := by rw [Int.toNat_natCast]; simp [List.getD_eq_getElem?_getD, hk]
  rw [e2] at e1
  subst e1
  have h0 := hc 0 _ rfl
  have h1 := hc 1 _ rfl
  rw [Int.toNat_natCast] at h0 h1
  exact ⟨ad, e, h0, h1⟩
theorem at_pair2 {w : World} {A : Option Addr} {n : Nat} {xs : List PairD} (h : Kd.C kPair w A n xs) (k : Nat) (hk : k < xs.length) : ∃ ad, A = some ad ∧ w.cell? (ad.add (k * 2)) = some (.string xs[k].key) ∧ w.cell? ⟨(ad.add (k * 2)).block, (ad.add (k * 2)).off + 1, none⟩ = some (.string xs[k].val) := by
  obtain ⟨ad, e, h0, h1⟩ := at_pair h k hk
  rw [← add_add'] at h1
  exact ⟨ad, e, h0, h1⟩
/-- '==' of pairs. -/
def eqP (x0 x1 y0 y1 : ByteArray) : Bool := x0.toList == y0.toList && x1.toList == y1.toList
theorem bytes_toList_inj {x y : ByteArray} (h : x.toList = y.toList) : x = y := by
  rw [ByteArray.toList_eq, ByteArray.toList_eq] at h
  exact ByteArray.ext (Array.toList_inj.1 h)
theorem eqP_iff (x y : PairD) : eqP x.key x.val y.key y.val = true ↔ x = y := by
  unfold eqP
  rw [Bool.and_eq_true, beq_iff_eq, beq_iff_eq]
  constructor
  · rintro ⟨h1, h2⟩
    cases x
    cases y
    cases bytes_toList_inj h1
    cases bytes_toList_inj h2
    rfl
  · rintro rfl
    exact ⟨rfl, rfl⟩
theorem eqA_pair (d : Nat) (w : World) (x0 y0 : ByteArray) (x1 y1 : ByteArray) :
    (Op.equalIn (d + 2) 80 (.agg #[.string x0, .string x1]) (.agg #[.string y0, .string y1])).run Try.prog w = .ok (eqP x0 x1 y0 y1) w := by
  refine eqA_of Try.underlying80 (by kernel_rfl) ?_
  refine eqf_cons (by rfl) (by go_simp; rfl) (by go_simp; rfl) (by go_simp) ?_
  exact eqf_last (by rfl) (by go_simp; rfl) (by go_simp; rfl) (by go_simp)
attribute [local go_sem high] eqA_pair

set_option maxHeartbeats 800000 in
theorem greatPairs (A0 : Option Addr) (c0 : Nat) (l0 : List PairD) (m : Int) (w : World) (hr0 : Kd.C kPair w A0 l0.length l0) (hg0 : ∀ s ∈ l0, GPair s) :
    Calls Try.prog 41 #[.slice A0 l0.length c0, .int .i64 m] w fun e w' => RetBool (fun r => r = false → (l0.length : Int) ≤ m ∧ ∀ s ∈ l0, s.key.size ≤ 100 ∧ s.val.size ≤ 100) e ∧ Below w.heap.size w w' := by
  have hm0 := Kd.C_max hr0
  have HR0 := Aside0.mk hr0
  have HG0 := Aside0.mk hg0
  clear hr0 hg0
  go_enter Try.func41, Try.ntmps41
  go_wp2_with fail
  go_loopg [5] l0.length (fun kq v5 w' => ∃ k : Nat, k + kq = l0.length ∧ v5 = .int .i64 k ∧ Aside0 (∀ j (hj : j < l0.length), j < k → l0[j].key.size ≤ 100 ∧ l0[j].val.size ≤ 100) ∧ Drawn0 w w')
  case atStart => exact ⟨0, by omega, rfl, ⟨fun j hj h => by omega⟩, Drawn0.refl _⟩
  case round =>
    obtain ⟨k, hk, rfl, HA, ⟨m1, rfl⟩⟩ := hrel
    by_cases hlt : k < l0.length
    · by_cases hmost : (l0.length : Int) ≤ m
      · obtain ⟨ad, rfl, hc, hcv⟩ := at_pair2 HR0.out k hlt
        obtain ⟨s, hs⟩ : ∃ s, s = l0[k] := ⟨_, rfl⟩
        rw [← hs] at hc hcv
        have hsz : GPair s := by rw [hs]; exact HG0.out _ (List.getElem_mem _)
        obtain ⟨hsz1, hsz2⟩ := hsz
        have HS := Aside0.mk hs
        clear hs
        by_cases hbig : 100 < s.key.size
        · go_wp2_with fail
          go_ret
          exact ⟨RetBool.mk true (by simp), (Drawn0.step (Drawn0.refl w) m1).below⟩
        · by_cases hbig2 : 100 < s.val.size
          · go_wp2_with fail
            go_ret
            exact ⟨RetBool.mk true (by simp), (Drawn0.step (Drawn0.refl w) m1).below⟩
          · go_wp2_with fail
            go_roundg (l0.length - (k + 1))
            case measure => omega
            case rel => exact ⟨k + 1, by omega, by go_num, ⟨fun j hj h => by
              rcases Nat.lt_or_ge j k with h1 | h1
              · exact HA.out j hj h1
              · obtain rfl : j = k := by omega
                rw [← HS.out]
                omega⟩, Drawn0.step (Drawn0.refl w) m1⟩
      · go_wp2_with fail
        go_ret
        exact ⟨RetBool.mk true (by simp), (Drawn0.step (Drawn0.refl w) m1).below⟩
    · by_cases hmost : (l0.length : Int) ≤ m
      · go_wp2_with fail
        go_ret
        refine ⟨RetBool.mk (decide (m < (l0.length : Int))) (fun _ => ⟨hmost, fun s hs => ?_⟩), (Drawn0.step (Drawn0.refl w) m1).below⟩
        obtain ⟨j, hj, rfl⟩ := List.getElem_of_mem hs
        exact HA.out j hj (by omega)
      · go_wp2_with fail
        go_ret
        exact ⟨RetBool.mk true (by simp), (Drawn0.step (Drawn0.refl w) m1).below⟩

set_option maxHeartbeats 800000 in
theorem samePairs (A0 : Option Addr) (c0 : Nat) (l0 : List PairD) (A1 : Option Addr) (c1 : Nat) (l1 : List PairD) (w : World) (hr0 : Kd.C kPair w A0 l0.length l0) (hr1 : Kd.C kPair w A1 l1.length l1) (r : Bool) (hr : r = true ↔ l0 = l1) :
    Calls Try.prog 35 #[.slice A0 l0.length c0, .slice A1 l1.length c1] w fun e w' => e = .returned (.bool r) ∧ Below w.heap.size w w' := by
  have HR := Aside0.mk hr
  have HR0 := Aside0.mk hr0
  have HR1 := Aside0.mk hr1
  have hm0 := Kd.C_max hr0
  clear hr hr0 hr1
  by_cases hl : l0.length = l1.length
  · have HL := Aside0.mk hl
    have hb0 : (l0.length == l1.length) = true := by simpa using hl
    have hb1 : ((l0.length : Int) == (l1.length : Int)) = true := by simp [hl]
    have hb2 : ((l0.length : Int) != (l1.length : Int)) = false := by simp [hl]
    clear hl
    have hu := Try.underlying80
    go_enter Try.func35, Try.ntmps35
    go_wp2_with fail
    go_loopg [5] l0.length (fun kq v5 w' => ∃ k : Nat, k + kq = l0.length ∧ v5 = .int .i64 k ∧ Aside0 (l0.take k = l1.take k) ∧ Drawn0 w w')
    case atStart => exact ⟨0, by omega, rfl, ⟨by simp⟩, Drawn0.refl _⟩
    case round =>
      obtain ⟨k, hk, rfl, HT, ⟨m1, rfl⟩⟩ := hrel
      clear hb0 hb1 hb2
      by_cases hlt : k < l0.length
      · have hlt1 : k < l1.length := by have := HL.out; omega
        obtain ⟨ad0, rfl, hx0, hy0⟩ := at_pair2 HR0.out k hlt
        obtain ⟨ad1, rfl, hx1, hy1⟩ := at_pair2 HR1.out k hlt1
        have hlt2 : (k : Int) < (l1.length : Int) := by omega
        obtain ⟨p, hp⟩ : ∃ p, p = l0[k] := ⟨_, rfl⟩
        obtain ⟨q, hq⟩ : ∃ q, q = l1[k] := ⟨_, rfl⟩
        rw [← hp] at hx0 hy0
        rw [← hq] at hx1 hy1
        have HP := Aside0.mk hp
        have HQ := Aside0.mk hq
        clear hp hq
        have g0 : l0.take (k + 1) = l0.take k ++ [p] := by rw [List.take_succ_eq_append_getElem hlt, HP.out]
        have g1 : l1.take (k + 1) = l1.take k ++ [q] := by rw [List.take_succ_eq_append_getElem hlt1, HQ.out]
        have G0 := Aside0.mk g0
        have G1 := Aside0.mk g1
        clear g0 g1
        cases hab : eqP p.key p.val q.key q.val with
        | true =>
          have HPQ := Aside0.mk ((eqP_iff p q).1 hab)
          go_wp2_with fail
          go_quiet (fail)
          go_wp2_with fail
          go_roundg (l0.length - (k + 1))
          case measure => omega
          case rel => exact ⟨k + 1, by omega, by go_num, ⟨by rw [G0.out, G1.out, HT.out, HPQ.out]⟩, by repeat (first | exact Drawn0.refl _ | apply Drawn0.step)⟩
        | false =>
          have hrf : r = false := by
            cases r with
            | false => rfl
            | true =>
              have h := HR.out.1 rfl
              have h2 := G0.out
              have h4 := G1.out
              rw [← h, h2] at h4
              have h3 := List.append_cancel_left h4
              have h5 : p = q := by simpa using h3
              rw [(eqP_iff p q).2 h5] at hab
              cases hab
          have HRF := Aside0.mk hrf
          clear hrf
          go_wp2_with fail
          go_quiet (fail)
          go_wp2_with fail
          go_ret
          exact ⟨by rw [HRF.out]; rfl, (Drawn0.step (Drawn0.step (Drawn0.refl w) m1) _).below⟩
      · go_wp2_with fail
        go_ret
        refine ⟨?_, (Drawn0.step (Drawn0.refl w) m1).below⟩
        have h2 := HT.out
        rw [List.take_of_length_le (by omega), List.take_of_length_le (by have := HL.out; omega)] at h2
        rw [HR.out.2 h2]
        rfl
  · have hb0 : (l0.length == l1.length) = false := by simpa using hl
    have hb1 : ((l0.length : Int) == (l1.length : Int)) = false := by simpa using fun h : (l0.length : Int) = l1.length => hl (by omega)
    have hb2 : ((l0.length : Int) != (l1.length : Int)) = true := by simpa using fun h : (l0.length : Int) = l1.length => hl (by omega)
    have hrf : r = false := by
      cases r with
      | true => exact absurd (by rw [HR.out.1 rfl]) hl
      | false => rfl
    have HRF := Aside0.mk hrf
    clear hl hrf
    go_enter Try.func35, Try.ntmps35
    go_wp2_with fail
    go_ret
    exact ⟨by rw [HRF.out]; rfl, Below.refl _ _⟩
end Go.Proofs.Ytckjgfbfjjiikaa.K
