/- What is contained; ends. WRITTEN BY wip/gen_y10.py. -/
import Derived.Test.YtbnhhlahbhjogaaY9
set_option linter.unusedVariables false
set_option linter.unusedSimpArgs false
set_option maxRecDepth 100000
namespace Go.Proofs.Ytbnhhlahbhjogaa.K
open Go.RowKit Go.Proofs.YtbnhhlahbhjogaaW.PrintWords Go.Proofs.YtbnhhlahbhjogaaW.PrintLast Go.Proofs.YtbnhhlahbhjogaaW.PrintMore Go.Proofs.Ytbnhhlahbhjogaa.U Go.Proofs.Ytbnhhlahbhjogaa.T

theorem at_intz {w : World} {A : Option Addr} {n : Nat} {xs : List Int} (h : Kd.C (Kd.int .i64) w A n xs) (k : Nat) (hk : k < xs.length) : ∃ ad, A = some ad ∧ w.cell? (ad.add k) = some (.int .i64 xs[k]) := by
  obtain ⟨ad, e, hc⟩ := reads_cells h (by have := Kd.C_len h; omega)
  exact ⟨ad, e, hc k _ (by simp [nums, hk])⟩
theorem at_boolz {w : World} {A : Option Addr} {n : Nat} {xs : List Bool} (h : Kd.C Kd.bool w A n xs) (k : Nat) (hk : k < xs.length) : ∃ ad, A = some ad ∧ w.cell? (ad.add k) = some (.bool xs[k]) := by
  obtain ⟨ad, c, e, hl, hK, hc⟩ := Kd.C_get h false (k : Int) (by omega) (by have := Kd.C_len h; omega)
  have e2 : xs.getD (k : Int).toNat false = xs[k] := by rw [Int.toNat_natCast]; simp [List.getD_eq_getElem?_getD, hk]
  rw [e2] at hK
  refine ⟨ad, e, ?_⟩
  have hK : c = [.bool xs[k]] := hK
  have := hc 0 (.bool xs[k]) (by rw [hK]; rfl)
  rw [Int.toNat_natCast, show k * Kd.bool.sz + 0 = k from by show k * 1 + 0 = k; omega] at this
  exact this
set_option maxHeartbeats 1600000 in
theorem containsII (A0 : Option Addr) (c0 : Nat) (l0 : List Int) (x : Int) (w : World) (hr0 : Kd.C kI w A0 l0.length l0) :
    Calls Try.prog 89 #[.slice A0 l0.length c0, .int .i64 x] w fun e w' => ∃ b : Int, e = .returned (.int .i64 b) ∧ Aside0 (0 ≤ b ↔ x ∈ l0) ∧ w' = w := by
  have hm0 := Kd.C_max hr0
  have HR0 := Aside0.mk hr0
  clear hr0
  go_enter Try.func89, Try.ntmps89
  go_wp2_with fail
  go_loopg [5, 8] l0.length (fun kq v5 v w' => ∃ k : Nat, k + kq = l0.length ∧ v = .int .i64 k ∧ Aside0 (∀ j (hj : j < l0.length), j < k → l0[j] ≠ x) ∧ w' = w)
  case atStart => exact ⟨0, by omega, rfl, ⟨fun j hj h => by omega⟩, rfl⟩
  case round =>
    obtain ⟨k, hk, rfl, HA, rfl⟩ := hrel
    by_cases hlt : k < l0.length
    · obtain ⟨ad, rfl, hx0⟩ := at_intz HR0.out k hlt
      obtain ⟨y, hy⟩ : ∃ y, y = l0[k] := ⟨_, rfl⟩
      rw [← hy] at hx0
      have HY := Aside0.mk hy
      clear hy
      by_cases he : y = x
      · have he2 : (x == y) = true := by rw [he]; simp
        have HE := Aside0.mk he
        clear he
        go_wp2_with fail
        go_ret
        exact ⟨(k : Int), rfl, ⟨⟨fun _ => by rw [← HE.out, HY.out]; exact List.getElem_mem hlt, fun _ => by omega⟩⟩, rfl⟩
      · have he2 : (x == y) = false := by simpa using fun h => he h.symm
        have HE := Aside0.mk he
        clear he
        go_wp2_with fail
        go_roundg (l0.length - (k + 1))
        case measure => omega
        case rel => exact ⟨k + 1, by omega, by go_num, ⟨fun j hj h => by
            rcases Nat.lt_or_ge j k with h1 | h1
            · exact HA.out j hj h1
            · obtain rfl : j = k := by omega
              rw [← HY.out]
              exact HE.out⟩, rfl⟩
    · obtain rfl : k = l0.length := by omega
      go_wp2_with fail
      go_ret
      refine ⟨_, rfl, ⟨?_⟩, rfl⟩
      refine ⟨fun h => absurd h (by decide), fun h => ?_⟩
      obtain ⟨j, hj, e⟩ := List.getElem_of_mem h
      exact absurd e (HA.out j hj hj)
theorem containsI (A0 : Option Addr) (c0 : Nat) (l0 : List Int) (x : Int) (w : World) (hr0 : Kd.C kI w A0 l0.length l0) (r : Bool) (hr : r = true ↔ x ∈ l0) :
    Calls Try.prog 74 #[.slice A0 l0.length c0, .int .i64 x] w fun e w' => e = .returned (.bool r) ∧ w' = w := by
  have HR := Aside0.mk hr
  clear hr
  have HI := Aside0.mk (containsII A0 c0 l0 x w hr0)
  clear hr0
  go_enter Try.func74, Try.ntmps74
  go_wp2_with fail
  refine HI.out.mono ?_
  rintro e w1 ⟨b, rfl, HB, rfl⟩
  by_cases hb : 0 ≤ b
  · go_wp2_with fail
    go_ret
    exact ⟨by rw [HR.out.2 (HB.out.1 hb)]; rfl, rfl⟩
  · go_wp2_with fail
    go_ret
    exact ⟨by rw [bool_no HR.out (fun h => by have := HB.out.2 h; omega)]; show Ending.returned (.bool (decide (0 ≤ b))) = _; rw [decide_eq_false (by omega)], rfl⟩
set_option maxHeartbeats 1600000 in
theorem containsBI (A0 : Option Addr) (c0 : Nat) (l0 : List Bool) (w : World) (hr0 : Kd.C Kd.bool w A0 l0.length l0) :
    Calls Try.prog 90 #[.slice A0 l0.length c0, .bool false] w fun e w' => ∃ b : Int, e = .returned (.int .i64 b) ∧ Aside0 (0 ≤ b ↔ false ∈ l0) ∧ w' = w := by
  have hm0 := Kd.C_max hr0
  have HR0 := Aside0.mk hr0
  clear hr0
  go_enter Try.func90, Try.ntmps90
  go_wp2_with fail
  go_loopg [5, 8] l0.length (fun kq v5 v w' => ∃ k : Nat, k + kq = l0.length ∧ v = .int .i64 k ∧ Aside0 (∀ j (hj : j < l0.length), j < k → l0[j] ≠ false) ∧ w' = w)
  case atStart => exact ⟨0, by omega, rfl, ⟨fun j hj h => by omega⟩, rfl⟩
  case round =>
    obtain ⟨k, hk, rfl, HA, rfl⟩ := hrel
    by_cases hlt : k < l0.length
    · obtain ⟨ad, rfl, hx0⟩ := at_boolz HR0.out k hlt
      obtain ⟨y, hy⟩ : ∃ y, y = l0[k] := ⟨_, rfl⟩
      rw [← hy] at hx0
      have HY := Aside0.mk hy
      clear hy
      cases y with
      | false =>
        go_wp2_with fail
        go_ret
        exact ⟨(k : Int), rfl, ⟨⟨fun _ => by rw [HY.out]; exact List.getElem_mem hlt, fun _ => by omega⟩⟩, rfl⟩
      | true =>
        go_wp2_with fail
        go_roundg (l0.length - (k + 1))
        case measure => omega
        case rel => exact ⟨k + 1, by omega, by go_num, ⟨fun j hj h => by
            rcases Nat.lt_or_ge j k with h1 | h1
            · exact HA.out j hj h1
            · obtain rfl : j = k := by omega
              rw [← HY.out]
              decide⟩, rfl⟩
    · obtain rfl : k = l0.length := by omega
      go_wp2_with fail
      go_ret
      refine ⟨_, rfl, ⟨?_⟩, rfl⟩
      refine ⟨fun h => absurd h (by decide), fun h => ?_⟩
      obtain ⟨j, hj, e⟩ := List.getElem_of_mem h
      exact absurd e (HA.out j hj hj)
theorem containsB (A0 : Option Addr) (c0 : Nat) (l0 : List Bool) (w : World) (hr0 : Kd.C Kd.bool w A0 l0.length l0) (r : Bool) (hr : r = true ↔ false ∈ l0) :
    Calls Try.prog 75 #[.slice A0 l0.length c0, .bool false] w fun e w' => e = .returned (.bool r) ∧ w' = w := by
  have HR := Aside0.mk hr
  clear hr
  have HI := Aside0.mk (containsBI A0 c0 l0 w hr0)
  clear hr0
  go_enter Try.func75, Try.ntmps75
  go_wp2_with fail
  refine HI.out.mono ?_
  rintro e w1 ⟨b, rfl, HB, rfl⟩
  by_cases hb : 0 ≤ b
  · go_wp2_with fail
    go_ret
    exact ⟨by rw [HR.out.2 (HB.out.1 hb)]; rfl, rfl⟩
  · go_wp2_with fail
    go_ret
    exact ⟨by rw [bool_no HR.out (fun h => by have := HB.out.2 h; omega)]; show Ending.returned (.bool (decide (0 ≤ b))) = _; rw [decide_eq_false (by omega)], rfl⟩
def badN (x : Int) : Prop := x < 0 ∨ 40 < x
theorem bad1 (x : Int) (w : World) (r : Bool) (hr : r = decide (x < 0 ∨ 40 < x)) : Calls Try.prog 73 #[.int .i64 x] w fun e w' => e = .returned (.bool r) ∧ w' = w := by
  by_cases h1 : x < 0
  · have HR : Aside0 (r = true) := ⟨by rw [hr]; simp [h1]⟩
    clear hr
    go_enter Try.func73, Try.ntmps73
    go_wp2_with fail
    go_ret
    exact ⟨by rw [HR.out]; rfl, rfl⟩
  · by_cases h2 : 40 < x
    · have HR : Aside0 (r = true) := ⟨by rw [hr]; simp [h2]⟩
      clear hr
      go_enter Try.func73, Try.ntmps73
      go_wp2_with fail
      go_ret
      exact ⟨by rw [HR.out]; rfl, rfl⟩
    · have HR : Aside0 (r = false) := ⟨by rw [hr]; simp [h1, h2]⟩
      clear hr
      go_enter Try.func73, Try.ntmps73
      go_wp2_with fail
      go_ret
      exact ⟨by rw [HR.out]; rfl, rfl⟩
set_option maxHeartbeats 1600000 in
theorem indexBadN (A0 : Option Addr) (c0 : Nat) (l0 : List Int) (w : World) (hr0 : Kd.C kI w A0 l0.length l0) :
    Calls Try.prog 88 #[.slice A0 l0.length c0, .func (.func 73) #[] #[]] w fun e w' => ∃ b : Int, e = .returned (.int .i64 b) ∧ Aside0 (0 ≤ b ↔ ∃ x ∈ l0, x < 0 ∨ 40 < x) ∧ w' = w := by
  have hm0 := Kd.C_max hr0
  have HR0 := Aside0.mk hr0
  clear hr0
  go_enter Try.func88, Try.ntmps88
  go_wp2_with fail
  go_loopg [5, 8] l0.length (fun kq v5 v w' => ∃ k : Nat, k + kq = l0.length ∧ v = .int .i64 k ∧ Aside0 (∀ j (hj : j < l0.length), j < k → ¬ (l0[j] < 0 ∨ 40 < l0[j])) ∧ w' = w)
  case atStart => exact ⟨0, by omega, rfl, ⟨fun j hj h => by omega⟩, rfl⟩
  case round =>
    obtain ⟨k, hk, rfl, HA, rfl⟩ := hrel
    by_cases hlt : k < l0.length
    · obtain ⟨ad, rfl, hx0⟩ := at_intz HR0.out k hlt
      obtain ⟨y, hy⟩ : ∃ y, y = l0[k] := ⟨_, rfl⟩
      rw [← hy] at hx0
      have HY := Aside0.mk hy
      clear hy
      by_cases he : y < 0 ∨ 40 < y
      · have HE := Aside0.mk he
        have HD : Aside0 (true = decide (y < 0 ∨ 40 < y)) := ⟨(decide_eq_true he).symm⟩
        clear he
        go_wp2_with fail
        refine (bad1 y _ true HD.out).mono ?_
        rintro e w1 ⟨rfl, rfl⟩
        go_wp2_with fail
        go_ret
        exact ⟨(k : Int), rfl, ⟨⟨fun _ => ⟨_, List.getElem_mem hlt, by rw [← HY.out]; exact HE.out⟩, fun _ => by omega⟩⟩, rfl⟩
      · have HE := Aside0.mk he
        have HD : Aside0 (false = decide (y < 0 ∨ 40 < y)) := ⟨(decide_eq_false he).symm⟩
        clear he
        go_wp2_with fail
        refine (bad1 y _ false HD.out).mono ?_
        rintro e w1 ⟨rfl, rfl⟩
        go_wp2_with fail
        go_roundg (l0.length - (k + 1))
        case measure => omega
        case rel => exact ⟨k + 1, by omega, by go_num, ⟨fun j hj h => by
            rcases Nat.lt_or_ge j k with h1 | h1
            · exact HA.out j hj h1
            · obtain rfl : j = k := by omega
              rw [← HY.out]
              exact HE.out⟩, rfl⟩
    · obtain rfl : k = l0.length := by omega
      go_wp2_with fail
      go_ret
      refine ⟨_, rfl, ⟨?_⟩, rfl⟩
      refine ⟨fun h => absurd h (by decide), fun ⟨x, hx, h⟩ => ?_⟩
      obtain ⟨j, hj, rfl⟩ := List.getElem_of_mem hx
      exact absurd h (HA.out j hj hj)
theorem containsBad (A0 : Option Addr) (c0 : Nat) (l0 : List Int) (w : World) (hr0 : Kd.C kI w A0 l0.length l0) (r : Bool) (hr : r = true ↔ ∃ x ∈ l0, x < 0 ∨ 40 < x) :
    Calls Try.prog 72 #[.slice A0 l0.length c0, .func (.func 73) #[] #[]] w fun e w' => e = .returned (.bool r) ∧ w' = w := by
  have HI := Aside0.mk (indexBadN A0 c0 l0 w hr0)
  have HR := Aside0.mk hr
  clear hr0 hr
  go_enter Try.func72, Try.ntmps72
  go_wp2_with fail
  refine HI.out.mono ?_
  rintro e w1 ⟨b, rfl, HB, rfl⟩
  by_cases hb : 0 ≤ b
  · go_wp2_with fail
    go_ret
    exact ⟨by rw [HR.out.2 (HB.out.1 hb)]; rfl, rfl⟩
  · go_wp2_with fail
    go_ret
    exact ⟨by rw [bool_no HR.out (fun h => by have := HB.out.2 h; omega)]; show Ending.returned (.bool (decide (0 ≤ b))) = _; rw [decide_eq_false (by omega)], rfl⟩
/-- An answer's records: one or none, its rows of one's own. -/
def RecsP (w : World) (base : Nat) (v : Value) (rs : List RecD) : Prop := ∃ zs ow, RListP w base v zs ow ∧ zs.map (·.x) = rs
theorem RecsP.below {w w' : World} {base : Nat} {v : Value} {rs : List RecD} (h : RecsP w base v rs) (hb : Below w.heap.size w w') : RecsP w' base v rs := by
  obtain ⟨zs, ow, h, e⟩ := h
  exact ⟨zs, ow, h.below hb, e⟩
theorem RecsP.nil (w : World) (base : Nat) : RecsP w base (.slice none 0 0) [] :=
  ⟨[], fun _ => none, ⟨Own.nil _ _ _ _, fun j hj => absurd hj (by simp), fun j hj => absurd hj (by simp), fun _ _ => rfl, fun _ hk => absurd rfl hk⟩, rfl⟩
theorem RecsP.reads {w : World} {base : Nat} {v : Value} {rs : List RecD} (h : RecsP w base v rs) : ∃ A n, v = .slice A rs.length n ∧ Kd.C kRec w A rs.length rs := by
  obtain ⟨zs, ow, h, rfl⟩ := h
  obtain ⟨A, n, e, hC⟩ := h.reads
  exact ⟨A, n, by rw [e, List.length_map], by rw [List.length_map]; exact hC⟩
/-- A row just made of one struct's cells is one's own. -/
theorem own_lit {α : Type} (d : Kd α) (hf : Flat d) (e : TypeId) (w : World) (base : Nat) (x : α) (cs : List Value) (hK : d.K w x cs) (g : Nat) (hg : base ≤ g) (hb : w.heap[g]? = some (.cells cs.toArray e (0, 0))) : Own d e w base (.slice (some ⟨g, 0, none⟩) 1 1) [x] := by
  have hlen := d.K_len hK
  refine ⟨fun _ _ => trivial, cs, ⟨by simp [hlen], .inr ⟨g, 1, cs.toArray, rfl, hg, hb, Nat.le_refl _, by unfold maxLen; omega, by simp [hlen], by simp [List.take_of_length_le (Nat.le_of_eq hlen)]⟩⟩, ⟨by simp [hlen], fun j p hj => ?_⟩⟩
  have hj0 : j = 0 ∧ x = p := by
    cases j with
    | zero => simpa using hj
    | succ j => simp at hj
  obtain ⟨rfl, rfl⟩ := hj0
  rw [Nat.zero_mul, List.drop_zero, List.take_of_length_le (by omega)]
  exact hf.mk' hK _ _ _
end Go.Proofs.Ytbnhhlahbhjogaa.K
