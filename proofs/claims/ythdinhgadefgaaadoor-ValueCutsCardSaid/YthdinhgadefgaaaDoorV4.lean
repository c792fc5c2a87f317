/- Values: what each call of the document does. -/
import Derived.Test.YthdinhgadefgaaaDoorV3
import Derived.Deep.LoopGhost
set_option linter.unusedVariables false
set_option linter.unusedSimpArgs false
set_option maxRecDepth 100000
namespace Go.Proofs.YthdinhgadefgaaaDoor.K
open Go.RowKit Go.Proofs.YthdinhgadefgaaaDoorW.PrintWords Go.Proofs.YthdinhgadefgaaaDoorW.PrintLast Go.Proofs.YthdinhgadefgaaaDoorW.PrintMore Go.Proofs.YthdinhgadefgaaaDoor.U Go.Proofs.YthdinhgadefgaaaDoor.T Go.Proofs.YthdinhgadefgaaaDoor.V
attribute [local go_sem] max2_int min2_int

def decB (u : Nat) : ByteArray := ⟨(Lib.decDigits u).toArray⟩
theorem dig_one : ∀ i : Fin 10, ((⟨#[48, 49, 50, 51, 52, 53, 54, 55, 56, 57]⟩ : ByteArray).extract i.val (i.val + 1)).data = #[UInt8.ofNat (48 + i.val)] := by decide
theorem decB_size (u : Nat) (h : u ≤ 18446744073709551615) : (decB u).size ≤ 20 := by
  show (Lib.decDigits u).toArray.size ≤ 20
  rw [List.size_toArray, Lib.decDigits_length]
  exact nDigits_le 19 u (by omega)
theorem decB_small (u : Nat) (h : u < 10) : decB u = (⟨#[48, 49, 50, 51, 52, 53, 54, 55, 56, 57]⟩ : ByteArray).extract u (u + 1) := by
  have h1 := dig_one ⟨u, h⟩
  apply ByteArray.ext
  rw [h1]
  unfold decB
  rw [Lib.decDigits, dif_pos h]
theorem decB_step (u : Nat) (h : ¬ u < 10) : decB u = decB (u / 10) ++ decB (u % 10) := by
  apply ba_ext
  rw [ByteArray.data_append, Array.toList_append]
  unfold decB
  simp only
  have e2 : Lib.decDigits (u % 10) = [UInt8.ofNat (48 + u % 10)] := by rw [Lib.decDigits, dif_pos (by omega)]
  rw [e2, Lib.decDigits, dif_neg h]
theorem refUp (k : Nat) : ∀ (u : Nat) (w : World), u ≤ k → u ≤ 18446744073709551615 → Calls Tryd.prog 37 #[.int .u64 u] w fun e w' => e = .returned (.string (decB u)) ∧ w' = w := by
  induction k with
  | zero =>
    intro u w hk _
    obtain rfl : u = 0 := by omega
    go_enter Tryd.func37, Tryd.ntmps37
    go_wp2_with fail
    go_ret
    exact ⟨by rw [decB_small 0 (by omega)]; rfl, rfl⟩
  | succ k ih =>
    intro u w hk hu
    by_cases h : u < 10
    · have h1 : (u : Int) < 10 := by omega
      rw [decB_small u h]
      clear ih
      go_enter Tryd.func37, Tryd.ntmps37
      go_wp2_with fail
      go_ret
      exact ⟨rfl, rfl⟩
    · have h1 : ¬ (u : Int) < 10 := by omega
      rw [decB_step u h]
      have HA := Aside0.mk (ih (u / 10) w (by omega) (by omega))
      have HB := Aside0.mk (ih (u % 10) w (by omega) (by omega))
      rw [show ((u / 10 : Nat) : Int) = (u : Int) / 10 from by omega] at HA
      rw [show ((u % 10 : Nat) : Int) = (u : Int) % 10 from by omega] at HB
      obtain ⟨a, ha⟩ : ∃ a, a = decB (u / 10) := ⟨_, rfl⟩
      obtain ⟨b, hb⟩ : ∃ b, b = decB (u % 10) := ⟨_, rfl⟩
      have hsa : a.size ≤ 20 := by rw [ha]; exact decB_size _ (by omega)
      have hsb : b.size ≤ 20 := by rw [hb]; exact decB_size _ (by omega)
      rw [← ha] at HA ⊢
      rw [← hb] at HB ⊢
      clear ih ha hb
      go_enter Tryd.func37, Tryd.ntmps37
      go_wp2_with fail
      refine HA.out.mono ?_
      rintro e w1 ⟨rfl, rfl⟩
      go_wp2_with fail
      refine HB.out.mono ?_
      rintro e w1 ⟨rfl, rfl⟩
      go_wp2_with fail
      go_ret
      exact ⟨rfl, rfl⟩
theorem refDigits (n : Int) (w : World) (hn : In64 n) : Calls Tryd.prog 22 #[.int .i64 n] w fun e w' => e = .returned (.string (digB n)) ∧ w' = w := by
  obtain ⟨h0, h1⟩ := hn
  by_cases h : n < 0
  · obtain ⟨u, hu⟩ : ∃ u : Nat, n = -(u : Int) := ⟨n.natAbs, by omega⟩
    have hd : digB n = ⟨#[45]⟩ ++ decB u := by
      apply ba_ext
      rw [ByteArray.data_append, Array.toList_append, digB_list, hu, Lib.itoa_neg u (by omega)]
      rfl
    have HU := Aside0.mk (refUp u u w (Nat.le_refl _) (by omega))
    obtain ⟨d, hd2⟩ : ∃ d, d = decB u := ⟨_, rfl⟩
    have hsd : d.size ≤ 20 := by rw [hd2]; exact decB_size _ (by omega)
    rw [hd]
    rw [← hd2] at HU ⊢
    have HUU : Aside0 (-(n + 1) + 1 = (u : Int)) := ⟨by omega⟩
    clear hd hd2 hu
    go_enter Tryd.func22, Tryd.ntmps22
    go_wp2_with fail
    rw [HUU.out]
    refine HU.out.mono ?_
    rintro e w1 ⟨rfl, rfl⟩
    go_wp2_with fail
    go_ret
    exact ⟨rfl, rfl⟩
  · obtain ⟨u, rfl⟩ : ∃ u : Nat, n = u := ⟨n.toNat, by omega⟩
    have hd : digB u = decB u := by
      apply ba_ext
      rw [digB_list, Lib.itoa_nonneg u]
      rfl
    have HU := Aside0.mk (refUp u u w (Nat.le_refl _) (by omega))
    rw [hd]
    obtain ⟨d, hd2⟩ : ∃ d, d = decB u := ⟨_, rfl⟩
    rw [← hd2] at HU ⊢
    have hu1 : IntKind.u64.wrap (u : Int) = u := by rw [u64_wrap]; omega
    clear hd hd2
    go_enter Tryd.func22, Tryd.ntmps22
    go_wp2_with fail
    refine HU.out.mono ?_
    rintro e w1 ⟨rfl, rfl⟩
    go_wp2_with fail
    go_ret
    exact ⟨rfl, rfl⟩
theorem refAt (s : ByteArray) (i : Int) (w : World) (hs : s.size ≤ 9223372036854775807) : Calls Tryd.prog 24 #[.string s, .int .i64 i] w fun e w' => e = .returned (.int .i64 (atB s i)) ∧ w' = w := by
  by_cases h0 : i < 0
  · rw [atB_out s i (.inl h0)]
    go_enter Tryd.func24, Tryd.ntmps24
    go_wp2_with fail
    go_ret
    exact ⟨rfl, rfl⟩
  · by_cases h1 : (s.size : Int) ≤ i
    · rw [atB_out s i (.inr h1)]
      go_enter Tryd.func24, Tryd.ntmps24
      go_wp2_with fail
      go_ret
      exact ⟨rfl, rfl⟩
    · obtain ⟨k, rfl⟩ : ∃ k : Nat, i = k := ⟨i.toNat, by omega⟩
      have hk : k < s.size := by omega
      have hk1 : (k : Int) < s.size := by omega
      rw [atB_in s k hk]
      have hb : ((s[k]'hk).toNat : Int) < 256 := by have := (s[k]'hk).toNat_lt; omega
      clear h0 h1
      go_enter Tryd.func24, Tryd.ntmps24
      go_wp2_with fail
      go_ret
      exact ⟨rfl, rfl⟩
theorem refCut (s : ByteArray) (f t : Int) (w : World) (hs : s.size ≤ 9223372036854775807) : Calls Tryd.prog 25 #[.string s, .int .i64 f, .int .i64 t] w fun e w' => e = .returned (.string (cutB s f t)) ∧ w' = w := by
  have hf := loB_int s f
  have ht := loB_int s t
  have hfl := loB_le s f
  have htl := loB_le s t
  unfold cutB
  generalize loB s f = a at *
  generalize loB s t = b at *
  by_cases h : b ≤ a
  · rw [if_pos h]
    go_enter Tryd.func25, Tryd.ntmps25
    go_wp2_with fail
    go_ret
    exact ⟨rfl, rfl⟩
  · rw [if_neg h]
    go_enter Tryd.func25, Tryd.ntmps25
    go_wp2_with fail
    go_ret
    exact ⟨rfl, rfl⟩
theorem refSame (x y : ValD) (r : Bool) (hr : r = true ↔ sameV x y) (w : World) : Calls Tryd.prog 16 #[x.cells, y.cells] w fun e w' => e = .returned (.bool r) ∧ Below w.heap.size w w' := by
  obtain ⟨a, b, c⟩ := x
  obtain ⟨p, q, t⟩ := y
  unfold ValD.cells sameV at *
  simp only at *
  have hbe := (((Below.refl w.heap.size w).alloc (Nat.le_refl _) (.cells #[.bool a, .int .i64 b, .string c] 23)).alloc (by simp) (.cells #[.bool p, .int .i64 q, .string t] 23))
  cases a
  · cases p
    · have hq : (b == q) = r := by
        rw [Bool.eq_iff_iff, hr]
        simp
      clear hr
      go_enter Tryd.func16, Tryd.ntmps16
      go_wp2_with fail
      go_ret
      exact ⟨rfl, hbe⟩
    · have hq : r = false := by rw [Bool.eq_false_iff]; intro h; have := (hr.1 h).1; cases this
      subst hq
      clear hr
      go_enter Tryd.func16, Tryd.ntmps16
      go_wp2_with fail
      go_ret
      exact ⟨rfl, hbe⟩
  · cases p
    · have hq : r = false := by rw [Bool.eq_false_iff]; intro h; have := (hr.1 h).1; cases this
      subst hq
      clear hr
      go_enter Tryd.func16, Tryd.ntmps16
      go_wp2_with fail
      go_ret
      exact ⟨rfl, hbe⟩
    · have hq : (c.toList == t.toList) = r := by
        rw [eqs, Bool.eq_iff_iff, hr]
        simp
      clear hr
      go_enter Tryd.func16, Tryd.ntmps16
      go_wp2_with fail
      go_ret
      exact ⟨rfl, hbe⟩
def foldK (s : ByteArray) (k : Nat) : Int := (s.data.toList.take k).foldl accW 0
theorem foldK_step (s : ByteArray) (k : Nat) (h : k < s.size) : foldK s (k + 1) = accW (foldK s k) s[k] := by
  unfold foldK
  have h2 : k < s.data.toList.length := by simpa using h
  rw [List.take_succ_eq_append_getElem h2, List.foldl_append]
  simp
  rfl
theorem foldK_in (s : ByteArray) (k : Nat) : In64 (foldK s k) := foldW_in _
theorem foldK_all (s : ByteArray) : foldK s s.size = foldW s.data.toList := by
  unfold foldK foldW
  rw [List.take_of_length_le (by simp)]
set_option maxHeartbeats 800000 in
theorem refNumber (s : ByteArray) (w : World) (hs : s.size ≤ 1000000) : Calls Tryd.prog 23 #[.string s] w fun e w' => e = .returned (.int .i64 (numB s)) ∧ w' = w := by
  have hnw := numW_eq s.data.toList
  have hpin := preN_in s.data.toList
  have hpre : preN s.data.toList = if s.size ≤ 20 then foldK s s.size else 0 := by unfold preN; rw [foldK_all]; simp
  obtain ⟨f, hf⟩ : ∃ f, f = preN s.data.toList := ⟨_, rfl⟩
  obtain ⟨x, hx⟩ : ∃ x, x = numB s := ⟨_, rfl⟩
  rw [← hf] at hpin hpre
  have hx2 : x = if digB f = s then f else if digB (wrap64 (-f)) = s then wrap64 (-f) else 0 := by
    rw [hx]
    show numL s.data.toList = _
    rw [← hnw]
    unfold numW
    rw [← hf]
    have e1 : ∀ n, (Lib.itoa n = s.data.toList) ↔ digB n = s := fun n => ⟨fun h => ba_ext (by rw [digB_list]; exact h), fun h => by rw [← h, digB_list]⟩
    simp only [e1]
  rw [← hx]
  have HX := Aside0.mk hx2
  have HF := Aside0.mk hpre
  have HIN := Aside0.mk hpin
  clear hx hx2 hf hnw hpre hpin
  have HEND : Aside0 (f = (if s.size ≤ 20 then foldK s s.size else 0)) := ⟨HF.out⟩
  go_enter Tryd.func23, Tryd.ntmps23
  go_wp2_with fail
  go_loopg [3, 4] s.size (fun kq v3 v4 w' => w' = w ∧ ∃ (k : Nat) (n : Int), k + kq = s.size ∧ (20 < s.size → k = 0) ∧ v4 = .int .i64 k ∧ v3 = .int .i64 n ∧ Aside0 (n = foldK s k))
  case atStart => exact ⟨rfl, 0, 0, by omega, fun _ => rfl, rfl, rfl, ⟨rfl⟩⟩
  case round =>
    obtain ⟨rfl, k, n, hk, hk0, rfl, rfl, HN⟩ := hrel
    by_cases hlt : k < s.size ∧ s.size ≤ 20
    · obtain ⟨hlt, h20⟩ := hlt
      have hlt1 : (k : Int) < s.size := by omega
      have h201 : (s.size : Int) ≤ 20 := by omega
      have hb : ((s[k]'hlt).toNat : Int) < 256 := by have := (s[k]'hlt).toNat_lt; omega
      have HST := Aside0.mk (foldK_step s k hlt)
      clear hk0
      by_cases hd0 : (48 : Int) ≤ (s[k]'hlt).toNat
      · by_cases hd1 : ((s[k]'hlt).toNat : Int) ≤ 57
        · go_wp2_with fail
          go_roundg (s.size - (k + 1))
          case measure => omega
          case rel => exact ⟨rfl, k + 1, _, by omega, fun h => by omega, by go_num, rfl, ⟨by rw [HST.out, ← HN.out]; unfold accW; rw [if_pos (by omega)]⟩⟩
        · go_wp2_with fail
          go_roundg (s.size - (k + 1))
          case measure => omega
          case rel => exact ⟨rfl, k + 1, n, by omega, fun h => by omega, by go_num, rfl, ⟨by rw [HST.out, ← HN.out]; unfold accW; rw [if_neg (by omega)]⟩⟩
      · go_wp2_with fail
        go_roundg (s.size - (k + 1))
        case measure => omega
        case rel => exact ⟨rfl, k + 1, n, by omega, fun h => by omega, by go_num, rfl, ⟨by rw [HST.out, ← HN.out]; unfold accW; rw [if_neg (by omega)]⟩⟩
    · have hnf : n = f := by
        rw [HN.out, HF.out]
        by_cases h20 : s.size ≤ 20
        · rw [if_pos h20, show k = s.size from by omega]
        · rw [if_neg h20, hk0 (by omega)]; rfl
      subst hnf
      have hor : ¬ (k : Int) < s.size ∨ ((k : Int) < s.size ∧ ¬ (s.size : Int) ≤ 20) := by omega
      have HD1 := Aside0.mk (refDigits n wr HIN.out)
      have HD2 := Aside0.mk (refDigits (wrap64 (-n)) wr (wrap64_in64 _))
      obtain ⟨d1, hd1⟩ : ∃ d, d = digB n := ⟨_, rfl⟩
      obtain ⟨d2, hd2⟩ : ∃ d, d = digB (wrap64 (-n)) := ⟨_, rfl⟩
      have hx := HX.out
      rw [← hd1, ← hd2] at hx
      rw [← hd1] at HD1
      rw [← hd2] at HD2
      have hor2 : (d1.toList == s.toList) = true ∧ x = n ∨ ((d1.toList == s.toList) = false ∧ (d2.toList == s.toList) = true ∧ x = wrap64 (-n)) ∨ ((d1.toList == s.toList) = false ∧ (d2.toList == s.toList) = false ∧ x = 0) := by
        rw [eqs, eqs, hx]
        by_cases e1 : d1 = s
        · rw [if_pos e1]; exact .inl ⟨by simp [e1], rfl⟩
        · rw [if_neg e1]
          by_cases e2 : d2 = s
          · rw [if_pos e2]; exact .inr (.inl ⟨by simp [e1], by simp [e2], rfl⟩)
          · rw [if_neg e2]; exact .inr (.inr ⟨by simp [e1], by simp [e2], rfl⟩)
      clear HX HF HEND HN hx hd1 hd2 hlt hk0
      rcases hor with q1 | ⟨q1, q2⟩
      all_goals
        go_wp2_with fail
        refine HD1.out.mono ?_
        rintro e w1 ⟨rfl, rfl⟩
        rcases hor2 with ⟨e1, rfl⟩ | ⟨e1, e2, rfl⟩ | ⟨e1, e2, rfl⟩
        · go_wp2_with fail
          go_ret
          exact ⟨rfl, rfl⟩
        · go_wp2_with fail
          refine HD2.out.mono ?_
          rintro e w1 ⟨rfl, rfl⟩
          go_wp2_with fail
          go_ret
          exact ⟨rfl, rfl⟩
        · go_wp2_with fail
          refine HD2.out.mono ?_
          rintro e w1 ⟨rfl, rfl⟩
          go_wp2_with fail
          go_ret
          exact ⟨rfl, rfl⟩
end Go.Proofs.YthdinhgadefgaaaDoor.K
