/- The statement RecordWhole: what the walk of its code comes to. WRITTEN BY wip/gen_whole.py. -/
import Derived.Test.YtkgbcoijkmlmnaaR13
import Derived.Test.YtkgbcoijkmlmnaaKL
set_option linter.unusedVariables false
set_option linter.unusedSimpArgs false
set_option maxRecDepth 100000
namespace Go.Proofs.Ytkgbcoijkmlmnaa.K
open Go.RowKit Go.Proofs.YtkgbcoijkmlmnaaW.PrintWords Go.Proofs.YtkgbcoijkmlmnaaW.PrintLast Go.Proofs.YtkgbcoijkmlmnaaW.PrintMore Go.Proofs.Ytkgbcoijkmlmnaa.U Go.Proofs.Ytkgbcoijkmlmnaa.T

/-! ### in plain lists -/
def EN (rs : List RecD) (j : Nat) : Nat := (allR (rs.take j)).length
def endsR (rs : List RecD) (k : Nat) : List Int := (List.range k).map (fun i => (EN rs (i + 1) : Int))
theorem endsR_length (rs : List RecD) (k : Nat) : (endsR rs k).length = k := by simp [endsR]
theorem endsR_succ (rs : List RecD) (k : Nat) : endsR rs (k + 1) = endsR rs k ++ [(EN rs (k + 1) : Int)] := by simp [endsR, List.range_succ]
theorem endsR_at (rs : List RecD) (k j : Nat) (h : j < k) : rd (endsR rs k) (j : Int) = EN rs (j + 1) := by
  rw [rd_at _ _ (by rw [endsR_length]; exact h)]
  simp [endsR]
theorem EN_step (rs : List RecD) (j : Nat) (h : j < rs.length) : EN rs (j + 1) = EN rs j + (recB rs[j]).length := by rw [EN, allR_snoc _ _ h, List.length_append, EN]
/-- As many records as are whole below m. -/
theorem whole_at (rs : List RecD) (m n : Nat) : ∃ j, j ≤ n ∧ (∀ i, i < j → EN rs (i + 1) ≤ m) ∧ (j < n → m < EN rs (j + 1)) := by
  induction n with
  | zero => exact ⟨0, Nat.le_refl _, fun i h => by omega, fun h => by omega⟩
  | succ n ih =>
    obtain ⟨j, h1, h2, h3⟩ := ih
    by_cases hj : j < n
    · exact ⟨j, by omega, h2, fun _ => h3 hj⟩
    · obtain rfl : j = n := by omega
      by_cases hm : EN rs (j + 1) ≤ m
      · exact ⟨j + 1, Nat.le_refl _, fun i hi => by
          rcases Nat.lt_or_ge i j with h | h
          · exact h2 i h
          · obtain rfl : i = j := by omega
            exact hm, fun h => by omega⟩
      · exact ⟨j, by omega, h2, fun _ => by omega⟩
theorem EN_le {rs : List RecD} {m j : Nat} (h : ∀ i, i < j → EN rs (i + 1) ≤ m) : EN rs j ≤ m := by
  cases j with
  | zero => simp [EN, allR]
  | succ j => exact h j (by omega)
theorem read_cut (rs : List RecD) (hm : ∀ x ∈ rs, MayR x) (m j : Nat) (hml : m ≤ (allR rs).length) (hj : j ≤ rs.length) (h1 : ∀ i, i < j → EN rs (i + 1) ≤ m) (h2 : j < rs.length → m < EN rs (j + 1)) : ReadF ((allR rs).take m) (rs.take j) (EN rs j) := by
  have e0 : allR rs = allR (rs.take j) ++ allR (rs.drop j) := by rw [← allR_append, List.take_append_drop]
  have hle := EN_le h1
  have e1 : (allR rs).take m = allR (rs.take j) ++ (allR (rs.drop j)).take (m - EN rs j) := by
    rw [e0, List.take_append, EN, List.take_of_length_le (by rw [← EN]; exact hle)]
  rw [e1]
  refine read_all (rs.take j) (fun x hx => hm x (List.mem_of_mem_take hx)) _ ?_
  by_cases hjl : j < rs.length
  · have e2 : allR (rs.drop j) = recB rs[j] ++ allR (rs.drop (j + 1)) := by rw [← List.getElem_cons_drop hjl]; rfl
    have h3 := h2 hjl
    have h4 := EN_step rs j hjl
    rw [e2, List.take_append_of_le_length (by omega)]
    exact one_short _ (hm _ (List.getElem_mem hjl)) _ (by omega)
  · rw [List.drop_eq_nil_of_le (by omega)]
    simp [allR, one_nil]

/-! ### rows -/
theorem own_blkR {α : Type} {d : Kd α} {e : TypeId} {w : World} {base : Nat} {v : Value} {xs : List α} (h : Own d e w base v xs) {k : Nat} (hk : v.ownBlock = some k) : ∃ cs, w.heap[k]? = some (.cells cs e (0, 0)) := by
  obtain ⟨_, inner, ⟨hl, ho⟩, hr⟩ := h
  rcases ho with ⟨rfl, _⟩ | ⟨g, cap, cur, rfl, h1, h2, _⟩
  · cases hk
  · injection hk with hk
    subst hk
    exact ⟨_, h2⟩
theorem own_apart {w : World} {base base' : Nat} {v v' : Value} {xs ys : List Int} (h : Own (Kd.int .u8) 5 w base v xs) (h' : Own kI 3 w base' v' ys) (k : Nat) (hk : v.ownBlock = some k) : v'.ownBlock ≠ some k := fun e => by
  obtain ⟨cs, h3⟩ := own_blkR h hk
  obtain ⟨cs', h4⟩ := own_blkR h' e
  rw [h3] at h4
  injection h4 with h4
  injection h4 with _ h4
  exact absurd h4 (by decide)
theorem recC1 {w : World} {x : RecD} {A1 A2 : Option Addr} {c1 c2 : Nat} (hC : RecC w x A1 A2 c1 c2) {g : Nat} {t : TypeId} {fr : Nat × Nat} (h : w.heap[g]? = some (.cells (rawR x (.slice A1 x.set.length c1) (.slice A2 x.prs.length c2)).toArray t fr)) : Kd.C kRec w (some ⟨g, 0, none⟩) 1 [x] := by
  refine ⟨rfl, by show 1 ≤ 9223372036854775807; omega, fun _ => ⟨_, rfl, fun j y hj => ?_⟩⟩
  have hj0 : j = 0 ∧ x = y := by
    cases j with
    | zero => simpa using hj
    | succ j => simp at hj
  obtain ⟨rfl, rfl⟩ := hj0
  refine ⟨_, rfl, kRec_mk hC, fun i u hu => ?_⟩
  rw [show 0 * kRec.sz + i = i from by rw [Nat.zero_mul, Nat.zero_add]]
  exact cells_of_blk h i u hu
theorem lay_one {x : RecD} (h : MayR x) : layR [x] = recB x := by
  rw [layR, if_pos (fun y hy => by obtain rfl := List.mem_singleton.1 hy; exact h)]
  simp [allR]

set_option maxHeartbeats 6400000 in
theorem recordWhole_walk (W : World) (A0 : Option Addr) (c0 : Nat) (rs : List RecD) (hr0 : Kd.C kRec W A0 rs.length rs) (hc0 : rs.length ≤ c0) (hg0 : ∀ x ∈ rs, GRec x) (cut : Int) (hwf : (Lit.int .i64 cut).wf = true) :
    Calls Try.prog 7 #[.slice A0 rs.length c0, .int .i64 cut] W fun e w' => e = .returned (.bool true) ∧ Below W.heap.size W w' := by
  have HR0 := Aside0.mk hr0
  have HG0 := Aside0.mk hg0
  have hu := Try.underlying64
  clear hr0 hg0 hwf
  go_enter Try.func7, Try.ntmps7
  go_wp2_with fail
  refine (greatRecords A0 c0 rs 10 W HR0.out HG0.out).mono ?_
  rintro e w1 ⟨⟨r, rfl, hR⟩, hb1⟩
  have HRr := Aside0.mk hR
  have HB1 := Aside0.mk hb1
  clear hR hb1
  cases r with
  | true =>
    go_wp2_with fail
    refine (awake15 _).mono ?_
    rintro e w6 ⟨rfl, hb6⟩
    have HB6 := Aside0.mk (two_andj _ _ _ HB1.out hb6)
    clear hb6
    go_wp2_with fail
    go_ret
    exact ⟨rfl, HB6.out⟩
  | false =>
  have HT0 := Aside0.mk (HRr.out rfl).1
  clear HRr
  go_wp2_with fail
  go_loopg [5, 6, 7] rs.length (fun kq v5 v6 v7 w' => ∃ (k : Nat) (X : List Int) (Ab Ae : Option Addr) (cb ce : Nat), k + kq = rs.length ∧ v7 = .int .i64 k ∧ v5 = .slice Ab X.length cb ∧ v6 = .slice Ae k ce ∧ Aside0 (X = allR (rs.take k)) ∧ Aside0 (∀ y ∈ rs.take k, MayR y) ∧ Aside0 (Own (Kd.int .u8) 5 w' W.heap.size (.slice Ab X.length cb) X) ∧ Aside0 (Own kI 3 w' W.heap.size (.slice Ae k ce) (endsR rs k)) ∧ Aside0 (Below W.heap.size W w'))
  case atStart => exact ⟨0, [], none, none, 0, 0, by omega, rfl, rfl, rfl, ⟨rfl⟩, ⟨by simp⟩, ⟨Own.nil _ _ _ _⟩, ⟨Own.nil _ _ _ _⟩, HB1⟩
  case round =>
    clear HB1
    obtain ⟨k, X, Ab, Ae, cb, ce, hk, rfl, rfl, rfl, HX, HA, HV, HE, HB⟩ := hrel
    have hXl : X.length ≤ 60000 := by
      have h := allR_small (rs.take k) HA.out
      have := HT0.out
      rw [List.length_take] at h
      rw [HX.out]
      omega
    have hk10 : rs.length ≤ 10 := by have := HT0.out; omega
    by_cases hlt : k < rs.length
    · obtain ⟨ad, A1, A2, c1, c2, rfl, hC, hcell⟩ := at_rec (Kd.C_below HR0.out HB.out) k hlt zeroRec
      have hat := RecAt.of hcell
      obtain ⟨x, hx⟩ : ∃ x, x = rs[k] := ⟨_, rfl⟩
      rw [← hx] at hC hat
      obtain ⟨P, hP⟩ : ∃ P, ad.add (k * 7) = P := ⟨_, rfl⟩
      rw [hP] at hat
      obtain ⟨g0, o0, q0⟩ := P
      obtain ⟨n1, hn1⟩ : ∃ n, n = x.set.length := ⟨_, rfl⟩
      obtain ⟨n2, hn2⟩ : ∃ n, n = x.prs.length := ⟨_, rfl⟩
      rw [← hn1, ← hn2] at hat
      have HAT := Aside0.mk hat
      have HNN := Aside0.mk (And.intro hn1 hn2)
      have HC := Aside0.mk hC
      have HX0 := Aside0.mk hx
      obtain ⟨r, hr⟩ := bool_of (MayR x)
      have HRM := Aside0.mk hr
      have hkI : (k : Int) < rs.length := by omega
      have hk0 : (0 : Int) ≤ (k : Int) := by omega
      have HMAY : Aside0 (Calls Try.prog 33 #[.agg #[.int .i64 x.k, .int .i64 x.p, .int .i64 x.s, .int .i64 x.a, .int .i64 x.r, .slice A1 n1 c1, .slice A2 n2 c2]] wr fun e w' => e = .returned (.bool r) ∧ Below wr.heap.size wr w') := ⟨by rw [hn1, hn2]; exact mayRec x A1 A2 c1 c2 wr HC.out r hr⟩
      obtain ⟨f0, f1, f2, f3, f4, f5, f6⟩ := hat
      clear hx hn1 hn2 hC hcell hr
      go_wp2_with fail
      refine HMAY.out.mono ?_
      rintro e w2 ⟨rfl, hb2⟩
      have HB2 := Aside0.mk hb2
      clear f0 f1 f2 f3 f4 f5 f6
      cases r with
      | false =>
        clear hb2
        go_wp2_with fail
        refine (awake15 _).mono ?_
        rintro e w6 ⟨rfl, hb6⟩
        have HB6 := Aside0.mk (two_andj _ _ _ (two_andj _ _ _ HB.out HB2.out) hb6)
        clear hb6
        go_wp2_with fail
        go_ret
        exact ⟨rfl, HB6.out⟩
      | true =>
        have HM := Aside0.mk (HRM.out.1 rfl)
        obtain ⟨f0, f1, f2, f3, f4, f5, f6⟩ := HAT.out.below hb2
        obtain ⟨wL, hwL⟩ : ∃ wL, wL = w2.alloc (.cells #[.int .i64 x.k, .int .i64 x.p, .int .i64 x.s, .int .i64 x.a, .int .i64 x.r, .slice A1 n1 c1, .slice A2 n2 c2] 64) := ⟨_, rfl⟩
        have hbL : Below w2.heap.size w2 wL := by rw [hwL]; exact (Below.refl _ _).alloc (Nat.le_refl _) _
        have hCL := recC1 (g := w2.heap.size) (t := 64) (fr := (0, 0)) ((HC.out.below hb2).below hbL) (by rw [hwL, ← HNN.out.1, ← HNN.out.2]; exact alloc_at w2 _)
        have HLAY : Aside0 (Calls Try.prog 34 #[.slice (some ⟨w2.heap.size, 0, none⟩) 1 1] wL fun e w' => ∃ Az Z cz, e = .returned (.slice Az (List.length Z) cz) ∧ Kd.C (Kd.int .u8) w' Az Z.length Z ∧ Aside0 (Z = recB x) ∧ Below wL.heap.size wL w') := ⟨by
          refine (layM (some ⟨w2.heap.size, 0, none⟩) 1 [x] wL hCL (by simp)).mono ?_
          rintro e w' ⟨v, Z, rfl, hO, hZ, hb⟩
          obtain ⟨Az, cz, rfl, _, hR⟩ := hO.reads
          exact ⟨Az, Z, cz, rfl, hR, ⟨hZ.out.trans (lay_one HM.out)⟩, hb⟩⟩
        have HWL := Aside0.mk hwL
        have HBL := Aside0.mk (two_andj _ _ _ hb2 hbL)
        clear hb2 hwL hbL hCL
        go_wp2_with fail
        rw [← HWL.out]
        clear f0 f1 f2 f3 f4 f5 f6
        refine HLAY.out.mono ?_
        rintro e w3 ⟨Az, Z, cz, rfl, hR3, HZ, hb3⟩
        have hbr3 := two_andj _ _ _ HBL.out hb3
        have HR3 := Aside0.mk hR3
        have HV3 := Aside0.mk (HV.out.below hbr3)
        have HE3 := Aside0.mk (HE.out.below hbr3)
        have HB3 := Aside0.mk (two_andj _ _ _ HB.out hbr3)
        have hZl : Z.length ≤ 5896 := by rw [HZ.out]; exact (recB_small HM.out).2
        clear hR3 hb3 hbr3
        have HA1 := Aside0.mk (append_own_runs Try.prog (flat_int .u8) 52 52 _ 1 Try.underlying52 info_u8 rfl (by decide) HV3.out Az Z.length cz rfl HR3.out HB3.out.size (by omega) (by omega))
        have HAPP : Aside0 (∀ v w', Own (Kd.int .u8) 5 w' W.heap.size v (X ++ Z) → w3.grownBy w' (Value.slice Ab X.length cb).ownBlock → ∃ (X' : List Int) (A' : Option Addr) (c' : Nat), v = .slice A' X'.length c' ∧ Aside0 (X' = X ++ Z) ∧ Aside0 (Own (Kd.int .u8) 5 w' W.heap.size (.slice A' X'.length c') X') ∧ Aside0 (Own kI 3 w' W.heap.size (.slice Ae k ce) (endsR rs k)) ∧ Aside0 (Below W.heap.size W w')) := ⟨fun v w' hO hg => by
          obtain ⟨A', c', rfl, _, _⟩ := hO.reads
          exact ⟨X ++ Z, A', c', rfl, ⟨rfl⟩, ⟨hO⟩, ⟨HE3.out.other (flat_int .i64) hg (fun j hj e => own_apart HV3.out HE3.out j e hj)⟩, ⟨HB3.out.grown hg HB3.out.size HV3.out.base_⟩⟩⟩
        have HAPP2 : Aside0 (∀ (X' : List Int) A' c' w4, Aside0 (X' = X ++ Z) → Aside0 (Own (Kd.int .u8) 5 w4 W.heap.size (.slice A' X'.length c') X') → Aside0 (Own kI 3 w4 W.heap.size (.slice Ae k ce) (endsR rs k)) → Aside0 (Below W.heap.size W w4) → ∀ ty, Runs Try.prog (Builtin.append_ #[31, 31] ty #[.slice Ae k ce, .slice (some ⟨w4.heap.size, 0, none⟩) 1 1]) (w4.alloc (.cells #[.int .i64 X'.length] 3)) fun v w' => ∃ Ae' ce', v = .slice Ae' (k + 1) ce' ∧ Aside0 (Own (Kd.int .u8) 5 w' W.heap.size (.slice A' X'.length c') X') ∧ Aside0 (Own kI 3 w' W.heap.size (.slice Ae' (k + 1) ce') (endsR rs (k + 1))) ∧ Aside0 (Below W.heap.size W w')) := ⟨fun X' A' c' w4 hX' hO' hE' hB' ty => by
          have hX2 : X'.length = EN rs (k + 1) := by rw [hX'.out, HX.out, HZ.out, HX0.out, EN, allR_snoc _ k hlt]
          refine (append_one_runs Try.prog (flat_int .i64) 31 ty _ 8 Try.underlying31 info_int rfl (by decide) (x := (X'.length : Int)) (cs := [.int .i64 X'.length]) hE'.out rfl hB'.out.size (by rw [endsR_length]; omega) (by rw [endsR_length]; omega) 3 _ rfl _ rfl).mono ?_
          rintro v w' ⟨hO, hg⟩
          rw [hX2, ← endsR_succ] at hO
          obtain ⟨Ae', ce', rfl, _, _⟩ := hO.reads
          have hbx : Below w4.heap.size w4 (w4.alloc (.cells #[.int .i64 X'.length] 3)) := (Below.refl _ _).alloc (Nat.le_refl _) _
          refine ⟨Ae', ce', by rw [endsR_length], ⟨(hO'.out.below hbx).other (flat_int .u8) hg (fun j hj e => own_apart hO'.out hE'.out j hj e)⟩, ⟨by rw [endsR_length] at hO; exact hO⟩, ⟨(hB'.out.alloc hB'.out.size _).grown hg (hB'.out.alloc hB'.out.size _).size hE'.out.base_⟩⟩⟩
        go_wp2_with (first
          | (at_builtin; refine wpList_append_runs rfl _ _ _ _ rfl _ _ rfl rfl HA1.out ?_; rintro v4 w4 ⟨hv4, hg4⟩; obtain ⟨X', A', c', rfl, HX', HO', HE', HB'⟩ := HAPP.out v4 w4 hv4 hg4; clear hv4 hg4)
          | (at_builtin; refine wpList_append_runs rfl _ _ _ _ rfl _ _ rfl rfl (HAPP2.out X' A' c' w4 HX' HO' HE' HB' _) ?_; rintro _ w5 ⟨Ae', ce', rfl, HO5, HE5, HB5⟩))
        go_roundg (rs.length - (k + 1))
        case measure => omega
        case rel =>
          refine ⟨k + 1, X', A', Ae', c', ce', by omega, by go_num, rfl, rfl, ⟨?_⟩, ⟨?_⟩, HO5, HE5, HB5⟩
          · rw [HX'.out, HX.out, HZ.out, HX0.out, allR_snoc _ k hlt]
          · intro y hy
            rw [List.take_succ_eq_append_getElem hlt] at hy
            rcases List.mem_append.1 hy with hy | hy
            · exact HA.out y hy
            · obtain rfl := List.mem_singleton.1 hy
              rw [← HX0.out]
              exact HM.out
    · obtain rfl : k = rs.length := by omega
      have HMAY : Aside0 (∀ x ∈ rs, MayR x) := ⟨by have h := HA.out; rwa [List.take_length] at h⟩
      have HXA : Aside0 (X = allR rs) := ⟨by rw [HX.out, List.take_length]⟩
      have HXLAY : Aside0 (X = layR rs) := ⟨by rw [HXA.out, layR, if_pos HMAY.out]⟩
      clear HX HA
      have hcb : X.length ≤ cb := (HV.out.is).2.1
      go_wp2_with fail
      refine (layM A0 c0 rs wr (Kd.C_below HR0.out HB.out) (by omega)).mono ?_
      rintro e w3 ⟨v3, Y, rfl, hO3, HY, hb3⟩
      obtain ⟨Ay, cy, rfl, _, hry⟩ := hO3.reads
      have HRY := Aside0.mk hry
      have HRX := Aside0.mk (Kd.C_below HV.out.is.2.2 hb3)
      have HRE := Aside0.mk (Kd.C_below HE.out.is.2.2 hb3)
      have HB3 := Aside0.mk (two_andj _ _ _ HB.out hb3)
      clear hb3 hO3 hry HB HV HE
      go_wp2_with fail
      refine (sameBytes Ab cb X Ay cy Y w3 HRX.out HRY.out true (by rw [HXLAY.out, HY.out]; simp)).mono ?_
      rintro e w4 ⟨rfl, hb4⟩
      have HRX4 := Aside0.mk (Kd.C_below HRX.out hb4)
      have HRE4 := Aside0.mk (Kd.C_below HRE.out hb4)
      have HB4 := Aside0.mk (two_andj _ _ _ HB3.out hb4)
      clear hb4 HRX HRE HB3 HRY
      go_wp2_with fail
      refine (low cut (X.length + 1) w4 (by omega) (by omega)).mono ?_
      rintro e w4 ⟨rfl, rfl⟩
      obtain ⟨m, hm⟩ := Int.eq_ofNat_of_zero_le (lowN_range cut (X.length + 1) (by omega)).1
      have hmX : m ≤ X.length := by have := (lowN_range cut (X.length + 1) (by omega)).2; omega
      rw [hm]
      clear hm
      obtain ⟨j0, hj1, hj2, hj3⟩ := whole_at rs m rs.length
      have HCUT := Aside0.mk (read_cut rs HMAY.out m j0 (by rw [← HXA.out]; exact hmX) hj1 hj2 hj3)
      have HJ2 := Aside0.mk hj2
      have HJ3 := Aside0.mk hj3
      clear hj2 hj3
      have HEAT : Aside0 (∀ i, i < rs.length → ∃ ad, Ae = some ad ∧ w4.cell? (ad.add i) = some (.int .i64 (EN rs (i + 1)))) := ⟨fun i hi => by
        obtain ⟨ad, rfl, h⟩ := Kd.at_int HRE4.out (i : Int) (by omega) (by rw [endsR_length]; omega)
        rw [endsR_at _ _ _ hi, Int.toNat_natCast] at h
        exact ⟨ad, rfl, h⟩⟩
      go_wp2_with fail
      go_loopg [9] j0 (fun kq v9 w' => ∃ j : Nat, j + kq = j0 ∧ v9 = .int .i64 j ∧ w' = w4)
      case atStart => exact ⟨0, by omega, rfl, rfl⟩
      case round =>
        obtain ⟨j, hj, rfl, rfl⟩ := hrel
        by_cases hlt2 : j < j0
        · obtain ⟨ad, rfl, hcell⟩ := HEAT.out j (by omega)
          obtain ⟨u, hu2⟩ : ∃ u, u = EN rs (j + 1) := ⟨_, rfl⟩
          rw [← hu2] at hcell
          have hle : (u : Int) ≤ (m : Int) := by have := HJ2.out j hlt2; omega
          have hjn : (j : Int) < rs.length := by omega
          clear hu2
          go_wp2_with fail
          go_roundg (j0 - (j + 1))
          case measure => omega
          case rel => exact ⟨j + 1, by omega, by go_num, rfl⟩
        · obtain rfl : j = j0 := by omega
          have e1 : (X.take m).length = m := by rw [List.length_take]; omega
          have HRD1 : Aside0 (Calls Try.prog 27 #[.slice Ab m cb] wr fun e w' => ∃ Az cz, e = .returned (.tuple #[.slice Az j cz, .int .i64 ((EN rs j : Nat) : Int)]) ∧ Aside0 (Kd.C kRec w' Az (rs.take j).length (rs.take j)) ∧ Below wr.heap.size wr w') := ⟨by
            have h := readM Ab cb (X.take m) wr (Kd.C_take HRX4.out hmX) (by rw [e1]; omega) (by rw [e1]; omega)
            rw [e1] at h
            refine h.mono ?_
            rintro e w' ⟨v, n, zs, ow, rfl, hP, hF, _, _, _, hb⟩
            have hF' := hF.out
            rw [HXA.out] at hF'
            obtain ⟨hz, rfl⟩ := hF'.unique HCUT.out
            obtain ⟨Az, cz, rfl, hC⟩ := hP.reads
            have hzl : zs.length = j := by have := congrArg List.length hz; rw [List.length_map, List.length_take] at this; omega
            rw [hz] at hC
            rw [hzl]
            have hlj : (rs.take j).length = zs.length := by rw [List.length_take]; omega
            exact ⟨Az, cz, rfl, ⟨by rw [hlj]; exact hC⟩, hb⟩⟩
          have HRD2 : Aside0 (∀ w2, Below wr.heap.size wr w2 → Calls Try.prog 27 #[.slice Ab X.length cb] w2 fun e w' => ∃ Az cz, e = .returned (.tuple #[.slice Az rs.length cz, .int .i64 ((X.length : Nat) : Int)]) ∧ Aside0 (Kd.C kRec w' Az rs.length rs) ∧ Below w2.heap.size w2 w') := ⟨fun w2 hw2 => by
            refine (readM Ab cb X w2 (Kd.C_below HRX4.out hw2) hcb (by omega)).mono ?_
            rintro e w' ⟨v, n, zs, ow, rfl, hP, hF, _, _, _, hb⟩
            have hF' := hF.out
            have hall := read_all rs HMAY.out [] one_nil
            rw [List.append_nil, ← HXA.out] at hall
            obtain ⟨hz, rfl⟩ := hF'.unique hall
            obtain ⟨Az, cz, rfl, hC⟩ := hP.reads
            have hzl : zs.length = rs.length := by have := congrArg List.length hz; rwa [List.length_map] at this
            rw [hz, hzl] at hC
            rw [hzl]
            exact ⟨Az, cz, rfl, ⟨hC⟩, hb⟩⟩
          have HS1 : Aside0 (∀ Az cz w2, Aside0 (Kd.C kRec w2 Az (rs.take j).length (rs.take j)) → Below wr.heap.size wr w2 → Calls Try.prog 29 #[.slice Az j cz, .slice A0 j c0] w2 fun e w' => e = .returned (.bool true) ∧ Below w2.heap.size w2 w') := ⟨fun Az cz w2 hC hw2 => by
            have e2 : (rs.take j).length = j := by rw [List.length_take]; omega
            have h := sameRecords Az cz (rs.take j) A0 c0 (rs.take j) w2 hC.out (Kd.C_take (Kd.C_below HR0.out (two_andj _ _ _ HB4.out hw2)) hj1) (by omega) true (by simp)
            rwa [e2] at h⟩
          have HS2 : Aside0 (∀ Az cz w2, Aside0 (Kd.C kRec w2 Az rs.length rs) → Below wr.heap.size wr w2 → Calls Try.prog 29 #[.slice Az rs.length cz, .slice A0 rs.length c0] w2 fun e w' => e = .returned (.bool true) ∧ Below w2.heap.size w2 w') := ⟨fun Az cz w2 hC hw2 => sameRecords Az cz rs A0 c0 rs w2 hC.out (Kd.C_below HR0.out (two_andj _ _ _ HB4.out hw2)) (by omega) true (by simp)⟩
          obtain ⟨E, hE⟩ : ∃ E, E = EN rs j := ⟨_, rfl⟩
          have hE0 : j = 0 → E = 0 := fun h => by rw [hE, h]; simp [EN, allR]
          have hEX : E ≤ X.length := by rw [hE]; have := EN_le HJ2.out; omega
          have HEJ : Aside0 (∀ w2, Below wr.heap.size wr w2 → 0 < j → ∃ ad, Ae = some ad ∧ w2.cell? (ad.add (j - 1)) = some (.int .i64 E)) := ⟨fun w2 hw2 h0 => by
            obtain ⟨ad, rfl, h⟩ := HEAT.out (j - 1) (by omega)
            rw [show j - 1 + 1 = j from by omega, ← hE] at h
            exact ⟨ad, rfl, (hw2.cell (World.block_lt_of_cell? wr _ h)).trans h⟩⟩
          rw [← hE] at HRD1
          clear hE e1
          have hmcb : (m : Int) ≤ (cb : Int) := by omega
          have hjc0 : (j : Int) ≤ (c0 : Int) := by omega
          have hEE : ((E : Int) == (E : Int)) = true := by simp
          have hXX : ((X.length : Int) == (X.length : Int)) = true := by simp
          by_cases hjn : j < rs.length
          case' pos =>
            obtain ⟨ad0, hae, hcell0⟩ := HEAT.out j hjn
            obtain ⟨u, hu2⟩ : ∃ u, u = EN rs (j + 1) := ⟨_, rfl⟩
            rw [← hu2] at hcell0
            have hgt : ¬ (u : Int) ≤ (m : Int) := by have := HJ3.out hjn; omega
            have hjI : (j : Int) < rs.length := by omega
            subst hae
            clear hu2
          case' neg =>
            have hjI : ¬ (j : Int) < rs.length := by omega
          all_goals
            go_wp2_with fail
            refine HRD1.out.mono ?_
            rintro e w5 ⟨Az, cz, rfl, HC5, hb5⟩
            have HB5 := Aside0.mk hb5
            by_cases hj0 : j = 0
            case' pos =>
              obtain rfl := hE0 hj0
              have hjp : ¬ (0 : Int) < (j : Int) := by omega
              have hjq : ¬ 0 < j := by omega
              clear hj0 hb5
            case' neg =>
              obtain ⟨ad, hae2, hcell2⟩ := HEJ.out w5 hb5 (by omega)
              have hw1 : IntKind.i64.wrap ((j : Int) - 1) = (j : Int) - 1 := IntWalk.i64_in _ (by omega)
              have hw2 : ((j : Int) - 1).toNat = j - 1 := by omega
              have hw3 : (0 : Int) ≤ (j : Int) - 1 := by omega
              have hw4 : (j : Int) - 1 < rs.length := by omega
              have hjp : (0 : Int) < (j : Int) := by omega
              have hjq : 0 < j := by omega
              first | subst hae2 | (cases hae2)
              clear hj0 hb5
            all_goals
              go_wp2_with fail
              refine (HRD2.out _ HB5.out).mono ?_
              rintro e w6 ⟨Ay2, cy2, rfl, HC6, hb6⟩
              have HB6 := Aside0.mk (two_andj _ _ _ HB5.out hb6)
              have HC56 := Aside0.mk (Kd.C_below HC5.out hb6)
              clear hb6
              go_wp2_with fail
              refine (HS1.out _ _ _ HC56 HB6.out).mono ?_
              rintro e w7 ⟨rfl, hb7⟩
              have HB7 := Aside0.mk (two_andj _ _ _ HB6.out hb7)
              have HC67 := Aside0.mk (Kd.C_below HC6.out hb7)
              clear hb7
              go_wp2_with fail
              refine (HS2.out _ _ _ HC67 HB7.out).mono ?_
              rintro e w8 ⟨rfl, hb8⟩
              have HB8 := Aside0.mk (two_andj _ _ _ HB7.out hb8)
              clear hb8
              go_wp2_with fail
              refine (awake15 _).mono ?_
              rintro e w9 ⟨rfl, hb9⟩
              have HB9 := Aside0.mk (two_andj _ _ _ HB4.out (two_andj _ _ _ HB8.out hb9))
              clear hb9
              go_wp2_with fail
              go_ret
              exact ⟨rfl, HB9.out⟩
end Go.Proofs.Ytkgbcoijkmlmnaa.K
