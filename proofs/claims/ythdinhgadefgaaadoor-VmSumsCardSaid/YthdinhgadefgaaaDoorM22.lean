/- The statement VmSums. -/
import Derived.Test.YthdinhgadefgaaaDoorM20
set_option linter.unusedVariables false
set_option linter.unusedSimpArgs false
set_option maxRecDepth 100000
namespace Go.Proofs.YthdinhgadefgaaaDoor.K
open Go.RowKit Go.Proofs.YthdinhgadefgaaaDoorW.PrintWords Go.Proofs.YthdinhgadefgaaaDoorW.PrintLast Go.Proofs.YthdinhgadefgaaaDoorW.PrintMore Go.Proofs.YthdinhgadefgaaaDoor.U Go.Proofs.YthdinhgadefgaaaDoor.T Go.Proofs.YthdinhgadefgaaaDoor.V

theorem info_strM : (Tryd.prog.info? 9).map (fun i => (i.zero, i.size, i.bytes)) = some (some (.string ⟨#[]⟩), 1, 16) := by kernel_rfl
theorem sumP_in : ∀ x ∈ sumP, In64 x.a := fun x hx => by
  have h : 0 ≤ x.a ∧ x.a ≤ 11 := by
    simp only [sumP, List.mem_cons, List.not_mem_nil, or_false] at hx
    rcases hx with rfl | rfl | rfl | rfl | rfl | rfl | rfl | rfl | rfl | rfl | rfl | rfl <;> decide
  exact in64_small (by omega) (by omega)
def sumL : Obj := .cells ((sumP.map cellI).flatten).toArray 51
theorem wf64S {n : Int} (h : (Lit.int .i64 n).wf = true) : In64 n := by
  have := bounds_i64 h
  unfold In64
  omega
theorem sumF_one (X : List ByteArray) (v : ByteArray) : sumF 0 (X ++ [v]) = wrap64 (sumF 0 X + numB v) := by rw [sumF_append]; rfl
/-- A row grown by one. -/
structure RowS (w : World) (base : Nat) (A : Option Addr) (m c : Nat) (X : List ByteArray) : Prop where
  own : Own Kd.string 9 w base (.slice A m c) X
  len : X.length = m
  sml : ∀ v ∈ X, v.size ≤ 64
set_option maxHeartbeats 6400000 in
theorem vmSums_walk (W : World) (hE : Env W) (key : ByteArray) (wkey : key.size ≤ 140737488351232) (A1 : Option Addr) (c1 : Nat) (vals : List ByteArray) (hr1 : Kd.C Kd.string W A1 vals.length vals) (hc1 : vals.length ≤ c1) (hg1 : ∀ s ∈ vals, s.size ≤ 9223372036854775807)
    (A2 : Option Addr) (c2 : Nat) (ns : List Int) (hr2 : Kd.C (Kd.int .i64) W A2 ns.length ns) (hc2 : ns.length ≤ c2) (hg2 : ∀ x ∈ ns, (Lit.int .i64 x).wf = true) :
    Calls Tryd.prog 13 #[.string key, .slice A1 vals.length c1, .slice A2 ns.length c2] W fun e w' => e = .returned (.bool true) ∧ Below W.heap.size W w' := by
  have HE := Aside0.mk hE
  have HR1 := Aside0.mk hr1
  have HR2 := Aside0.mk hr2
  have HG2 := Aside0.mk hg2
  clear hE wkey hr1 hc1 hg1 hr2 hc2 hg2
  by_cases hgr : key.size ≤ 16 ∧ vals.length ≤ 30 ∧ ns.length ≤ 30
  case' neg =>
    have hor : (16 : Int) < key.size ∨ (¬ (16 : Int) < key.size ∧ (30 : Int) < vals.length) ∨ (¬ (16 : Int) < key.size ∧ ¬ (30 : Int) < vals.length ∧ (30 : Int) < ns.length) := by omega
    clear hgr
    rcases hor with h1 | ⟨h1, h2⟩ | ⟨h1, h2, h3⟩
    all_goals
      go_enter Tryd.func13, Tryd.ntmps13
      go_wp2_with fail
      refine (awake6 W HE.out).mono ?_
      rintro e w1 ⟨rfl, hb1⟩
      have HB1 := Aside0.mk hb1
      clear hb1
      go_wp2_with fail
      go_ret
      exact ⟨rfl, HB1.out⟩
  obtain ⟨hk, hl1, hl2⟩ := hgr
  have h1 : ¬ (16 : Int) < key.size := by omega
  have h2 : ¬ (30 : Int) < vals.length := by omega
  have h3 : ¬ (30 : Int) < ns.length := by omega
  have HK := Aside0.mk hk
  have HL1 := Aside0.mk hl1
  have HL2 := Aside0.mk hl2
  clear hk hl1 hl2
  go_enter Tryd.func13, Tryd.ntmps13
  go_wp2_with fail
  clear h1 h2 h3
  go_loopg [7, 8, 9] vals.length (fun kq v7 v8 v9 w' => ∃ (k : Nat) (A : Option Addr) (c : Nat) (acc : Int), k + kq = vals.length ∧ v9 = .int .i64 k ∧ v7 = .slice A k c ∧ v8 = .int .i64 acc ∧ Aside0 (acc = sumF 0 (vals.take k)) ∧ Aside0 (RowS w' W.heap.size A k c (vals.take k) ∧ Below W.heap.size W w'))
  case atStart => exact ⟨0, none, 0, 0, by omega, rfl, rfl, rfl, ⟨rfl⟩, ⟨⟨(Own.nil Kd.string 9 W W.heap.size : Own Kd.string 9 W W.heap.size (.slice none 0 0) []), rfl, fun v hv => by cases hv⟩, Below.refl _ _⟩⟩
  case round =>
    obtain ⟨k, A, c, acc, hk, rfl, rfl, rfl, HA, HX⟩ := hrel
    by_cases hlt : k < vals.length
    · obtain ⟨ad, e1, hx0W⟩ := at_stringM HR1.out k hlt
      have hltI : (k : Int) < vals.length := by omega
      by_cases hv : (vals[k]'hlt).size ≤ 64
      · have hvI : ¬ (64 : Int) < (vals[k]'hlt).size := by omega
        have g0 : vals.take (k + 1) = vals.take k ++ [vals[k]'hlt] := List.take_succ_eq_append_getElem hlt
        obtain ⟨v, hve⟩ : ∃ v, v = vals[k]'hlt := ⟨_, rfl⟩
        rw [← hve] at hx0W hvI hv g0
        obtain ⟨X, hX⟩ : ∃ X, X = vals.take k := ⟨_, rfl⟩
        rw [← hX] at g0 HA HX
        subst e1
        have HX0 := Aside0.mk hx0W
        have hx0 : wr.cell? (ad.add k) = some (.string v) := (HX.out.2.cell (World.block_lt_of_cell? W _ hx0W)).trans hx0W
        have HG0 := Aside0.mk g0
        have HV := Aside0.mk hv
        have hb5 := (Below.refl wr.heap.size wr).alloc (Nat.le_refl _) (.cells #[.string v] 9)
        have HO5 := Aside0.mk (HX.out.1.own.below hb5)
        have HB5 := Aside0.mk (two_belowM HX.out.2 hb5)
        have HL5 := Aside0.mk (lit_strs wr [v] 9 #[.string v] rfl (by show 1 ≤ 1000; omega))
        have hbs : W.heap.size ≤ (wr.alloc (.cells #[.string v] 9)).heap.size := HB5.out.size
        have HXL := Aside0.mk HX.out.1.len
        clear hb5 hve hX hv g0 hx0W
        go_wp2_with (at_builtin; (refine wpList_app_own flat_string W.heap.size rfl _ _ 38 9 _ 16 rfl Tryd.underlying38 info_strM rfl (by decide) (by decide) (.slice A k c) X [v] (some ⟨wr.heap.size, 0, none⟩) 1 1 rfl rfl HO5.out rfl HL5.out hbs (by have := HL1.out; have := HXL.out; show (X.length + 1) * 16 ≤ 140737488355328; omega) ?_; intro v4 w4 hv4 hg4 hat4; obtain ⟨A4, c4, rfl, _, _⟩ := hv4.reads; have hxl : (X ++ [v]).length = k + 1 := (by simp [HXL.out]); rw [hxl] at hv4 ⊢; rw [← HG0.out] at hv4; have HV4 := Aside0.mk hv4; have HB4 := Aside0.mk (Below.ch HB5.out (Ch.of_grown (S := fun j => (Value.slice A k c).ownBlock = some j ∨ W.heap.size ≤ j) hg4 (fun j hj => .inr (HO5.out.base_ j hj))) hbs (fun j hj => by rcases hj with hj | hj; exact HO5.out.base_ j (by cases A <;> exact hj); exact hj)); have hx4 : w4.cell? (ad.add k) = some (.string v) := (HB4.out.cell (World.block_lt_of_cell? W _ HX0.out)).trans HX0.out; clear hv4 hg4 hat4 hxl hx0))
        refine (valNumber v w4 (HE.out.below HB4.out) (by have := HV.out; omega)).mono ?_
        rintro e w5 ⟨rfl, hb5⟩
        have HB5 := Aside0.mk hb5
        have HACC : Aside0 (wrap64 (acc + numB v) = sumF 0 (vals.take (k + 1))) := ⟨by rw [HG0.out, sumF_one, ← HA.out]⟩
        clear hb5 hx4
        have hl50 := HL1.out
        go_wp2_with fail
        go_roundg (vals.length - (k + 1))
        case measure => omega
        case rel => exact ⟨k + 1, A4, c4, wrap64 (acc + numB v), by omega, by have := HL1.out; go_num, rfl, rfl, HACC, ⟨⟨HV4.out.below HB5.out, by rw [HG0.out]; simp [HXL.out], fun y hy => by
          rw [HG0.out] at hy
          rcases List.mem_append.1 hy with h | h
          · exact HX.out.1.sml y h
          · rw [List.mem_singleton.1 h]; exact HV.out⟩, two_belowM HB4.out HB5.out⟩⟩
      · have hvI : (64 : Int) < (vals[k]'hlt).size := by omega
        have hx0 : wr.cell? (ad.add k) = some (.string (vals[k]'hlt)) := (HX.out.2.cell (World.block_lt_of_cell? W _ hx0W)).trans hx0W
        obtain ⟨v, hve⟩ : ∃ v, v = vals[k]'hlt := ⟨_, rfl⟩
        rw [← hve] at hx0 hvI
        subst e1
        clear hv hve hx0W
        go_wp2_with fail
        refine (awake6 wr (HE.out.below HX.out.2)).mono ?_
        rintro e w1 ⟨rfl, hb1⟩
        have HB1 := Aside0.mk (two_belowM HX.out.2 hb1)
        clear hb1
        go_wp2_with fail
        go_ret
        exact ⟨rfl, HB1.out⟩
    · have hltI : ¬ (k : Int) < vals.length := by omega
      have hkl : k = vals.length := by omega
      have HXX : Aside0 (RowS wr W.heap.size A k c vals ∧ acc = sumF 0 vals) := ⟨by
        have h := HX.out.1
        have h2 := HA.out
        rw [List.take_of_length_le (show vals.length ≤ k from by omega)] at h h2
        exact ⟨h, h2⟩⟩
      have HKL := Aside0.mk hkl
      have HB1 := Aside0.mk HX.out.2
      clear HX HA hkl hlt hk
      go_wp2_with fail
      clear hltI
      go_loopg [7, 8, 10] ns.length (fun kq v7 v8 v10 w' => ∃ (j m : Nat) (A : Option Addr) (c : Nat) (acc : Int) (Y : List ByteArray), j + kq = ns.length ∧ v10 = .int .i64 j ∧ v7 = .slice A m c ∧ v8 = .int .i64 acc ∧ Aside0 (m = k + j ∧ acc = sumF 0 Y) ∧ Aside0 (RowS w' W.heap.size A m c Y ∧ Below W.heap.size W w'))
      case atStart => exact ⟨0, k, A, c, acc, vals, by omega, rfl, rfl, rfl, ⟨rfl, HXX.out.2⟩, ⟨HXX.out.1, HB1.out⟩⟩
      case round =>
        obtain ⟨j, m, A, c, acc, Y, hj, rfl, rfl, rfl, HM, HX⟩ := hrel
        by_cases hlt : j < ns.length
        · have hltI : (j : Int) < ns.length := by omega
          obtain ⟨ad, e1, hx0W⟩ := Kd.at_int HR2.out (j : Int) (by omega) hltI
          rw [Int.toNat_natCast] at hx0W
          obtain ⟨n, hn⟩ : ∃ n, n = rd ns j := ⟨_, rfl⟩
          rw [← hn] at hx0W
          have hn64 : In64 n := by
            have e : n = ns[j]'hlt := by rw [hn]; simp [rd, List.getD_eq_getElem?_getD, hlt]
            rw [e]
            exact wf64S (HG2.out _ (List.getElem_mem hlt))
          subst e1
          have HN := Aside0.mk hn64
          have HX0 := Aside0.mk hx0W
          have hx0 : wr.cell? (ad.add j) = some (.int .i64 n) := (HX.out.2.cell (World.block_lt_of_cell? W _ hx0W)).trans hx0W
          clear hn hn64 hx0W
          have hl50 := HL2.out
          go_wp2_with fail
          refine (valDigits n wr (HE.out.below HX.out.2) HN.out).mono ?_
          rintro e w3 ⟨rfl, hb3⟩
          obtain ⟨D, hD⟩ : ∃ D, D = digB n := ⟨_, rfl⟩
          rw [← hD]
          have HDS : Aside0 (D.size ≤ 64) := ⟨by rw [hD]; exact digB_size n HN.out⟩
          have HDN : Aside0 (numB D = n) := ⟨by rw [hD]; exact numB_dig HN.out⟩
          have hb5 := (Below.refl w3.heap.size w3).alloc (Nat.le_refl _) (.cells #[.string D] 9)
          have HO5 := Aside0.mk ((HX.out.1.own.below hb3).below hb5)
          have HB5 := Aside0.mk (two_belowM (two_belowM HX.out.2 hb3) hb5)
          have HL5 := Aside0.mk (lit_strs w3 [D] 9 #[.string D] rfl (by show 1 ≤ 1000; omega))
          have hbs : W.heap.size ≤ (w3.alloc (.cells #[.string D] 9)).heap.size := HB5.out.size
          have HXL := Aside0.mk HX.out.1.len
          clear hb5 hb3 hD hx0
          go_wp2_with (at_builtin; (refine wpList_app_own flat_string W.heap.size rfl _ _ 38 9 _ 16 rfl Tryd.underlying38 info_strM rfl (by decide) (by decide) (.slice A m c) Y [D] (some ⟨w3.heap.size, 0, none⟩) 1 1 rfl rfl HO5.out rfl HL5.out hbs (by have := HL1.out; have := HL2.out; have := HXL.out; have := HM.out.1; have := HKL.out; show (Y.length + 1) * 16 ≤ 140737488355328; omega) ?_; intro v4 w4 hv4 hg4 hat4; obtain ⟨A4, c4, rfl, _, _⟩ := hv4.reads; have hxl : (Y ++ [D]).length = m + 1 := (by simp [HXL.out]); rw [hxl] at hv4 ⊢; have HV4 := Aside0.mk hv4; have HB4 := Aside0.mk (Below.ch HB5.out (Ch.of_grown (S := fun j => (Value.slice A m c).ownBlock = some j ∨ W.heap.size ≤ j) hg4 (fun j hj => .inr (HO5.out.base_ j hj))) hbs (fun j hj => by rcases hj with hj | hj; exact HO5.out.base_ j (by cases A <;> exact hj); exact hj)); have hx4 : w4.cell? (ad.add j) = some (.int .i64 n) := (HB4.out.cell (World.block_lt_of_cell? W _ HX0.out)).trans HX0.out; clear hv4 hg4 hat4 hxl))
          have HACC : Aside0 (wrap64 (acc + n) = sumF 0 (Y ++ [D])) := ⟨by rw [sumF_one, HDN.out, ← HM.out.2]⟩
          go_roundg (ns.length - (j + 1))
          case measure => omega
          case rel => exact ⟨j + 1, m + 1, A4, c4, wrap64 (acc + n), Y ++ [D], by omega, by have := HL2.out; go_num, rfl, rfl, ⟨by have := HM.out.1; omega, HACC.out⟩, ⟨⟨HV4.out, by simp [HXL.out], fun y hy => by
            rcases List.mem_append.1 hy with h | h
            · exact HX.out.1.sml y h
            · rw [List.mem_singleton.1 h]; exact HDS.out⟩, HB4.out⟩⟩
        · have hltI : ¬ (j : Int) < ns.length := by omega
          have hm60 : m ≤ 60 := by rw [HM.out.1, HKL.out]; have := HL1.out; have := HL2.out; omega
          obtain ⟨A', c', he, hcap, hCY⟩ := HX.out.1.own.reads
          have hYl := HX.out.1.len
          rw [hYl] at he hcap hCY
          obtain ⟨rfl, _, rfl⟩ : A = A' ∧ m = m ∧ c = c' := by injection he with a b c; exact ⟨a, b, c⟩
          have HR := Aside0.mk (sum_runs key HK.out Y HX.out.1.sml (by omega))
          have HBP := Aside0.mk ((Below.refl wr.heap.size wr).alloc (Nat.le_refl _) sumL)
          have HRUN := Aside0.mk (show ∀ w', Below (wr.alloc sumL).heap.size (wr.alloc sumL) w' → RunArgs w' (some ⟨wr.heap.size, 0, none⟩) 12 sumP A c Y 2000 from fun w' hb => ⟨HE.out.below (two_belowM HX.out.2 (two_belowM HBP.out hb)), Kd.C_below (lit_ins wr sumP 51 _ rfl (by decide)) hb, by decide, sumP_in, by rw [hYl]; exact Kd.C_below hCY (two_belowM HBP.out hb), by rw [hYl]; exact hcap, by omega, fun x hx => by have := HX.out.1.sml x hx; omega, in64_small (by omega) (by omega)⟩)
          have HACC := Aside0.mk HM.out.2
          have hacc : In64 acc := by rw [HM.out.2]; exact sumF_in _ _ (in64_small (by omega) (by omega))
          have HA64 := Aside0.mk hacc
          obtain ⟨D, hD⟩ : ∃ D, D = digB acc := ⟨_, rfl⟩
          have HD := Aside0.mk hD
          have hYm : (Y.length : Int) = m := by omega
          have HRR : Aside0 (toldF key sumP Y 2000 = [⟨key, D⟩] ∧ whyF key sumP Y 2000 = 0 ∧ stepsF key sumP Y 2000 = 7 * (m : Int) + 7) := ⟨by rw [hD, HACC.out, ← hYm]; exact HR.out⟩
          have HV1 := Aside0.mk (show ∀ w', Below (wr.alloc sumL).heap.size (wr.alloc sumL) w' → Calls Tryd.prog 32 #[.slice (some ⟨wr.heap.size, 0, none⟩) 12 12, .string key, .slice A m c, .int .i64 2000] w' fun e w'' => ∃ A' c', e = .returned (.tuple #[.slice A' 1 c', .int .i64 0]) ∧ Kd.C kPair w'' A' 1 [⟨key, D⟩] ∧ Below w'.heap.size w' w'' from fun w' hb => by
            have h := vmRun (some ⟨wr.heap.size, 0, none⟩) 12 sumP key A c Y 2000 w' (HRUN.out w' hb)
            rw [HRR.out.1, HRR.out.2.1, hYl] at h
            exact h)
          have HV2 := Aside0.mk (show ∀ w', Below (wr.alloc sumL).heap.size (wr.alloc sumL) w' → Calls Tryd.prog 33 #[.slice (some ⟨wr.heap.size, 0, none⟩) 12 12, .string key, .slice A m c, .int .i64 2000] w' fun e w'' => e = .returned (.int .i64 (7 * (m : Int) + 7)) ∧ Below w'.heap.size w' w'' from fun w' hb => by
            have h := vmSteps (some ⟨wr.heap.size, 0, none⟩) 12 sumP key A c Y 2000 w' (HRUN.out w' hb)
            rw [HRR.out.2.2, hYl] at h
            exact h)
          have hst : IntKind.i64.wrap (7 * (m : Int)) = 7 * m := IntWalk.i64_in _ (by omega)
          have hst2 : IntKind.i64.wrap (7 * (m : Int) + 7) = 7 * m + 7 := IntWalk.i64_in _ (by omega)
          have hss : ((7 * (m : Int) + 7) == (7 * (m : Int) + 7)) = true := by simp
          clear hYl he hcap hCY hacc hD hYm hm60
          go_wp2_with fail
          refine (HV1.out _ (Below.refl _ _)).mono ?_
          rintro e w3 ⟨A3, c3, rfl, hC3, hb3⟩
          have HC3 := Aside0.mk hC3
          have HP3 := Aside0.mk hb3
          have HB3 := Aside0.mk (two_belowM HX.out.2 (two_belowM HBP.out hb3))
          clear hC3 hb3
          go_wp2_with fail
          refine (valDigits acc w3 (HE.out.below HB3.out) HA64.out).mono ?_
          rintro e w4 ⟨rfl, hb4⟩
          rw [← HD.out]
          have hbp := (Below.refl w4.heap.size w4).alloc (Nat.le_refl _) (.cells #[.string key, .string D] 49)
          have HC5 := Aside0.mk (Kd.C_below HC3.out (two_belowM hb4 hbp))
          have HP5 := Aside0.mk (two_belowM HP3.out (two_belowM hb4 hbp))
          have HB5 := Aside0.mk (two_belowM HB3.out (two_belowM hb4 hbp))
          clear hb4 hbp
          go_wp2_with fail
          refine (samePairs A3 c3 [⟨key, D⟩] (some ⟨w4.heap.size, 0, none⟩) 1 [⟨key, D⟩] _ HC5.out (lit_pairs w4 [⟨key, D⟩] _ _ rfl (by show 1 ≤ 1000; omega)) true (by simp)).mono ?_
          rintro e w6 ⟨rfl, hb6⟩
          have HP6 := Aside0.mk (two_belowM HP5.out hb6)
          have HB6 := Aside0.mk (two_belowM HB5.out hb6)
          clear hb6
          go_wp2_with fail
          refine (HV2.out w6 HP6.out).mono ?_
          rintro e w7 ⟨rfl, hb7⟩
          have HB7 := Aside0.mk (two_belowM HB6.out hb7)
          clear hb7
          go_wp2_with fail
          refine (awake6 w7 (HE.out.below HB7.out)).mono ?_
          rintro e w8 ⟨rfl, hb8⟩
          have HB8 := Aside0.mk (two_belowM HB7.out hb8)
          clear hb8
          go_wp2_with fail
          go_ret
          exact ⟨rfl, HB8.out⟩
end Go.Proofs.YthdinhgadefgaaaDoor.K
