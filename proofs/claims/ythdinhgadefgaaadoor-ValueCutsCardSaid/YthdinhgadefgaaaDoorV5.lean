/- The statements on values: ValueTells, ValueSames, ValueBack, ValueCuts. -/
import Derived.Test.YthdinhgadefgaaaDoorV4
import Derived.Test.YthdinhgadefgaaaDoorWEqStruct
import Derived.Deep.RegionHeld3
import Derived.Deep.QuietTactic
import Derived.BigQuiet
set_option linter.unusedVariables false
set_option linter.unusedSimpArgs false
set_option maxRecDepth 100000
namespace Go.Proofs.YthdinhgadefgaaaDoor.K
open Go.RowKit Go.Proofs.YthdinhgadefgaaaDoorW.PrintWords Go.Proofs.YthdinhgadefgaaaDoorW.PrintLast Go.Proofs.YthdinhgadefgaaaDoorW.PrintMore Go.Proofs.YthdinhgadefgaaaDoor.U Go.Proofs.YthdinhgadefgaaaDoor.T Go.Proofs.YthdinhgadefgaaaDoor.V

theorem dec12 : Lib.decDigits 12 = [49, 50] := by
  rw [Lib.decDigits, dif_neg (by decide), Lib.decDigits, dif_pos (by decide)]; decide
theorem dec40 : Lib.decDigits 40 = [52, 48] := by
  rw [Lib.decDigits, dif_neg (by decide), Lib.decDigits, dif_pos (by decide)]; decide
theorem dec7 : Lib.decDigits 7 = [55] := by
  rw [Lib.decDigits, dif_pos (by decide)]; decide
theorem digB_12 : digB (-12) = ⟨#[45, 49, 50]⟩ := by
  apply ba_ext
  rw [digB_list]
  have := Lib.itoa_neg 12 (by decide)
  rw [dec12] at this
  exact this
theorem numB_007 : numB ⟨#[48, 48, 55]⟩ = 0 := by
  refine numL_none fun n hn e => ?_
  have e : Lib.itoa n = [48, 48, 55] := e
  rcases itoa_cases n with ⟨u, rfl, e2⟩ | ⟨u, _, rfl, e2⟩
  · rw [e2] at e
    have h := congrArg (foldD 0) e
    rw [foldD_dec] at h
    have h2 : u = 7 := h
    subst h2
    rw [dec7] at e
    cases e
  · rw [e2] at e
    injection e with e _
    revert e
    decide
theorem numB_40 : numB ⟨#[45, 52, 48]⟩ = -40 := by
  have h := Lib.itoa_neg 40 (by decide)
  rw [dec40] at h
  have h2 := numL_itoa (n := -40) (by unfold In64; omega)
  have h3 : Lib.itoa (-40) = [45, 52, 48] := h
  rw [h3] at h2
  exact h2
theorem atB_ab : atB ⟨#[97, 98]⟩ 1 = 98 := by decide
theorem cutB_abcd : cutB ⟨#[97, 98, 99, 100]⟩ 1 9 = ⟨#[98, 99, 100]⟩ := by
  apply ba_ext
  decide
theorem two_andv (w w1 w2 : World) (h : Below w.heap.size w w1) (k : Below w1.heap.size w1 w2) : Below w.heap.size w w2 := below_then h h.size k
theorem awake4 (w : World) (hE : Env w) : Calls Tryd.prog 14 #[] w fun e w' => e = .returned (.bool true) ∧ Below w.heap.size w w' := by
  have HE := Aside0.mk hE
  clear hE
  go_enter Tryd.func14, Tryd.ntmps14
  go_wp2_with fail
  refine (valDigits (-12) w HE.out (by unfold In64; omega)).mono ?_
  rintro e w1 ⟨rfl, hb1⟩
  rw [digB_12]
  have HB1 := Aside0.mk hb1
  clear hb1
  go_wp2_with fail
  refine (valNumber _ w1 (HE.out.below HB1.out) (by decide)).mono ?_
  rintro e w2 ⟨rfl, hb2⟩
  rw [numB_007]
  have HB2 := Aside0.mk (two_andv _ _ _ HB1.out hb2)
  clear hb2
  go_wp2_with fail
  refine (valNumber _ w2 (HE.out.below HB2.out) (by decide)).mono ?_
  rintro e w3 ⟨rfl, hb3⟩
  rw [numB_40]
  have HB3 := Aside0.mk (two_andv _ _ _ HB2.out hb3)
  clear hb3
  go_wp2_with fail
  refine (valAt _ 1 w3 (by decide)).mono ?_
  rintro e w3 ⟨rfl, rfl⟩
  rw [atB_ab]
  go_wp2_with fail
  refine (valCut _ 1 9 w3 (by decide)).mono ?_
  rintro e w3 ⟨rfl, rfl⟩
  rw [cutB_abcd]
  go_wp2_with fail
  refine (valInt 3 w3).mono ?_
  rintro e w4 ⟨rfl, hb4⟩
  have HB4 := Aside0.mk (two_andv _ _ _ HB3.out hb4)
  clear hb4
  go_wp2_with fail
  refine (valInt 3 w4).mono ?_
  rintro e w5 ⟨rfl, hb5⟩
  have HB5 := Aside0.mk (two_andv _ _ _ HB4.out hb5)
  clear hb5
  go_wp2_with fail
  refine (valSame ⟨false, 3, ⟨#[]⟩⟩ ⟨false, 3, ⟨#[]⟩⟩ true (by simp [sameV]) w5).mono ?_
  rintro e w6 ⟨rfl, hb6⟩
  have HB6 := Aside0.mk (two_andv _ _ _ HB5.out hb6)
  clear hb6
  go_wp2_with fail
  go_ret
  exact ⟨rfl, HB6.out⟩
theorem wf64 {n : Int} (h : (Lit.int .i64 n).wf = true) : In64 n := by
  have := bounds_i64 h
  unfold In64
  omega
theorem eqA_val (d : Nat) (w : World) (x0 y0 : Bool) (x1 y1 : Int) (x2 y2 : ByteArray) :
    (Op.equalIn (d + 2) 23 (.agg #[.bool x0, .int .i64 x1, .string x2]) (.agg #[.bool y0, .int .i64 y1, .string y2])).run Tryd.prog w = .ok (x0 == y0 && (x1 == y1 && x2.toList == y2.toList)) w := by
  refine eqA_of Tryd.underlying23 (by kernel_rfl) ?_
  refine eqf_cons (by rfl) (by go_simp; rfl) (by go_simp; rfl) (by go_simp) ?_
  refine eqf_cons (by rfl) (by go_simp; rfl) (by go_simp; rfl) (by go_simp) ?_
  exact eqf_last (by rfl) (by go_simp; rfl) (by go_simp; rfl) (by go_simp)
attribute [local go_sem high] eqA_val
set_option maxHeartbeats 1600000 in
theorem valueTells_walk (W : World) (hE : Env W) (n : Int) (wn : (Lit.int .i64 n).wf = true) (s : ByteArray) (ws : s.size ≤ 140737488351232) (i : Int) (wi : (Lit.int .i64 i).wf = true) (f : Int) (wf : (Lit.int .i64 f).wf = true) (t : Int) (wt : (Lit.int .i64 t).wf = true) :
    Calls Tryd.prog 6 #[.int .i64 n, .string s, .int .i64 i, .int .i64 f, .int .i64 t] W fun e w' => e = .returned (.bool true) ∧ Below W.heap.size W w' := by
  have HE := Aside0.mk hE
  have HN := Aside0.mk (wf64 wn)
  clear hE wn wi wf wt
  by_cases hbig : (200 : Int) < s.size
  · go_enter Tryd.func6, Tryd.ntmps6
    go_wp2_with fail
    refine (awake4 W HE.out).mono ?_
    rintro e w1 ⟨rfl, hb1⟩
    have HB1 := Aside0.mk hb1
    clear hb1
    go_wp2_with fail
    go_ret
    exact ⟨rfl, HB1.out⟩
  · have hs2 : s.size ≤ 200 := by omega
    go_enter Tryd.func6, Tryd.ntmps6
    go_wp2_with fail
    refine (valDigits n W HE.out HN.out).mono ?_
    rintro e w1 ⟨rfl, hb1⟩
    have HB1 := Aside0.mk hb1
    clear hb1
    go_wp2_with fail
    refine (refDigits n w1 HN.out).mono ?_
    rintro e w1 ⟨rfl, rfl⟩
    generalize digB n = d
    have hd : (d.toList == d.toList) = true := by simp
    go_wp2_with fail
    refine (valNumber s w1 (HE.out.below HB1.out) (by omega)).mono ?_
    rintro e w2 ⟨rfl, hb2⟩
    have HB2 := Aside0.mk (two_andv _ _ _ HB1.out hb2)
    clear hb2
    go_wp2_with fail
    refine (refNumber s w2 (by omega)).mono ?_
    rintro e w2 ⟨rfl, rfl⟩
    generalize numB s = x
    have hx : (x == x) = true := by simp
    go_wp2_with fail
    refine (valAt s i w2 (by omega)).mono ?_
    rintro e w2 ⟨rfl, rfl⟩
    go_wp2_with fail
    refine (refAt s i w2 (by omega)).mono ?_
    rintro e w2 ⟨rfl, rfl⟩
    generalize atB s i = y
    have hy : (y == y) = true := by simp
    go_wp2_with fail
    refine (valCut s f t w2 (by omega)).mono ?_
    rintro e w2 ⟨rfl, rfl⟩
    go_wp2_with fail
    refine (refCut s f t w2 (by omega)).mono ?_
    rintro e w2 ⟨rfl, rfl⟩
    generalize cutB s f t = c
    have hc : (c.toList == c.toList) = true := by simp
    go_wp2_with fail
    refine (valInt n w2).mono ?_
    rintro e w3 ⟨rfl, hb3⟩
    have HB3 := Aside0.mk (two_andv _ _ _ HB2.out hb3)
    have hn : (n == n) = true := by simp
    clear hb3
    go_wp2_with fail
    refine (valBytes s w3).mono ?_
    rintro e w4 ⟨rfl, hb4⟩
    have HB4 := Aside0.mk (two_andv _ _ _ HB3.out hb4)
    have hs3 : (s.toList == s.toList) = true := by simp
    clear hb4
    go_wp2_with fail
    refine (awake4 w4 (HE.out.below HB4.out)).mono ?_
    rintro e w5 ⟨rfl, hb5⟩
    have HB5 := Aside0.mk (two_andv _ _ _ HB4.out hb5)
    clear hb5
    go_wp2_with fail
    go_ret
    exact ⟨rfl, HB5.out⟩
theorem minusC (n : Int) (hn : In64 n) (w : World) : Calls Tryd.prog 19 #[.int .i64 n] w fun e w' => e = .returned (.int .i64 (minusL n)) ∧ w' = w := by
  obtain ⟨h0, h1⟩ := hn
  unfold minusL
  by_cases h : 0 < n
  · rw [if_pos h]
    go_enter Tryd.func19, Tryd.ntmps19
    go_wp2_with fail
    go_ret
    exact ⟨rfl, rfl⟩
  · rw [if_neg h]
    go_enter Tryd.func19, Tryd.ntmps19
    go_wp2_with fail
    go_ret
    exact ⟨rfl, rfl⟩
theorem numB_0 (n : Int) : numB (⟨#[48]⟩ ++ digB n) = 0 := by
  refine numL_none fun m hm e => ?_
  rw [ByteArray.data_append, Array.toList_append, digB_list] at e
  exact not_zero_ahead n m e
theorem numB_plus (n : Int) : numB (⟨#[43]⟩ ++ digB n) = 0 := by
  refine numL_none fun m hm e => ?_
  rw [ByteArray.data_append, Array.toList_append, digB_list] at e
  exact not_plus_ahead _ m e
theorem numB_blank (n : Int) : numB (digB n ++ ⟨#[32]⟩) = 0 := by
  refine numL_none fun m hm e => ?_
  rw [ByteArray.data_append, Array.toList_append, digB_list] at e
  exact not_blank_behind _ m e
theorem numB_minus (n : Int) (h : In64 n) : numB (⟨#[45]⟩ ++ digB n) = minusL n := by
  unfold numB
  rw [ByteArray.data_append, Array.toList_append, digB_list]
  exact numL_minus h
theorem digB_size {n : Int} (h : In64 n) : (digB n).size ≤ 20 := by
  show (Lib.itoa n).toArray.size ≤ 20
  rw [List.size_toArray]
  exact itoa_len h
theorem size_one_app (c : UInt8) (d : ByteArray) : ((⟨#[c]⟩ : ByteArray) ++ d).size = 1 + d.size := by rw [ByteArray.size_append]; rfl
theorem size_app_one (c : UInt8) (d : ByteArray) : (d ++ (⟨#[c]⟩ : ByteArray)).size = d.size + 1 := by rw [ByteArray.size_append]; rfl
set_option maxHeartbeats 1600000 in
theorem valueBack_walk (W : World) (hE : Env W) (n : Int) (wn : (Lit.int .i64 n).wf = true) :
    Calls Tryd.prog 4 #[.int .i64 n] W fun e w' => e = .returned (.bool true) ∧ Below W.heap.size W w' := by
  have HE := Aside0.mk hE
  have HN := Aside0.mk (wf64 wn)
  clear hE wn
  go_enter Tryd.func4, Tryd.ntmps4
  go_wp2_with fail
  refine (valDigits n W HE.out HN.out).mono ?_
  rintro e w1 ⟨rfl, hb1⟩
  have HB1 := Aside0.mk hb1
  clear hb1
  obtain ⟨d, hd⟩ : ∃ d, d = digB n := ⟨_, rfl⟩
  have HSZ : Aside0 (d.size ≤ 20) := ⟨by rw [hd]; exact digB_size HN.out⟩
  have hdz : d.size ≤ 20 := HSZ.out
  rw [← hd]
  have HD := Aside0.mk hd
  clear hd
  have hn : (n == n) = true := by simp
  go_wp2_with fail
  refine (valNumber d w1 (HE.out.below HB1.out) (by omega)).mono ?_
  rintro e w2 ⟨rfl, hb2⟩
  rw [HD.out, numB_dig HN.out, ← HD.out]
  have HB2 := Aside0.mk (two_andv _ _ _ HB1.out hb2)
  clear hb2
  go_wp2_with fail
  refine (valNumber _ w2 (HE.out.below HB2.out) (by rw [size_one_app]; omega)).mono ?_
  rintro e w3 ⟨rfl, hb3⟩
  rw [HD.out, numB_0, ← HD.out]
  have HB3 := Aside0.mk (two_andv _ _ _ HB2.out hb3)
  clear hb3
  go_wp2_with fail
  refine (valNumber _ w3 (HE.out.below HB3.out) (by rw [size_one_app]; omega)).mono ?_
  rintro e w4 ⟨rfl, hb4⟩
  rw [HD.out, numB_plus, ← HD.out]
  have HB4 := Aside0.mk (two_andv _ _ _ HB3.out hb4)
  clear hb4
  go_wp2_with fail
  refine (valNumber _ w4 (HE.out.below HB4.out) (by rw [size_app_one]; omega)).mono ?_
  rintro e w5 ⟨rfl, hb5⟩
  rw [HD.out, numB_blank, ← HD.out]
  have HB5 := Aside0.mk (two_andv _ _ _ HB4.out hb5)
  clear hb5
  go_wp2_with fail
  refine (valNumber _ w5 (HE.out.below HB5.out) (by rw [size_one_app]; omega)).mono ?_
  rintro e w6 ⟨rfl, hb6⟩
  rw [HD.out, numB_minus n HN.out, ← HD.out]
  have HB6 := Aside0.mk (two_andv _ _ _ HB5.out hb6)
  clear hb6
  go_wp2_with fail
  refine (minusC n HN.out w6).mono ?_
  rintro e w6 ⟨rfl, rfl⟩
  generalize minusL n = y
  have hy : (y == y) = true := by simp
  go_wp2_with fail
  refine (awake4 w6 (HE.out.below HB6.out)).mono ?_
  rintro e w7 ⟨rfl, hb7⟩
  have HB7 := Aside0.mk (two_andv _ _ _ HB6.out hb7)
  clear hb7
  go_wp2_with fail
  go_ret
  exact ⟨rfl, HB7.out⟩
end Go.Proofs.YthdinhgadefgaaaDoor.K
