/- The statements of chapter 1: what the walks of their code come to. -/
import Derived.Test.YtocooepdibgelaaKB2
import Derived.Test.YtocooepdibgelaaKL
set_option linter.unusedVariables false
set_option linter.unusedSimpArgs false
namespace Go.Proofs.Ytocooepdibgelaa.K
open Go.RowKit Go.Proofs.YtocooepdibgelaaW.PrintWords Go.Proofs.YtocooepdibgelaaW.PrintLast Go.Proofs.YtocooepdibgelaaW.PrintMore Go.Proofs.Ytocooepdibgelaa.U Go.Proofs.Ytocooepdibgelaa.T

theorem nil_reads {α : Type} (d : Kd α) (w : World) : Kd.C d w none ([] : List α).length [] := Kd.C_nil d w
theorem two_and (w w1 w2 : World) (h : Below w.heap.size w w1) (k : Below w1.heap.size w1 w2) : Below w.heap.size w w2 := below_then h h.size k

set_option maxHeartbeats 800000 in
theorem awake1 (w : World) : Calls Try.prog 28 #[] w fun e w' => e = .returned (.bool true) ∧ Below w.heap.size w w' := by
  go_enter Try.func28, Try.ntmps28
  go_wp2_with fail
  refine (text none 0 [] ⟨#[97, 98]⟩ w (nil_reads _ _) (by simp) (by decide)).mono ?_
  rintro e w1 ⟨v1, X1, rfl, hv1, HX1, hb1⟩
  obtain ⟨A, c, rfl, hc, hr⟩ := hv1.reads
  have HR := Aside0.mk hr
  have HC := Aside0.mk hc
  have HB1 := Aside0.mk hb1
  clear hr hc hb1 hv1
  go_wp2_with fail
  have hX : X1 = bytes8 2 8 ++ [97, 98] := by rw [HX1.out]; rfl
  have hd : (2 : Int) = dec8 ((X1.drop 0).take 8) := by
    rw [hX, List.drop_zero, List.take_left' (bytes8_length _ _), dec8_bytes8 _ (by omega) (by omega)]
  have HS : Aside0 (strOfNums (List.take 2 (List.drop (0 + 8) X1)) = ⟨#[97, 98]⟩) := ⟨by rw [hX, List.drop_left' (bytes8_length _ _)]; rfl⟩
  have hXl : 0 + 8 + 2 ≤ X1.length := by rw [hX]; decide
  clear hX
  refine (readText_ok A c _ 0 2 w1 HR.out HC.out hXl hd).mono ?_
  rintro e w2 ⟨rfl, hb2⟩
  have HB2 := Aside0.mk (two_and w w1 w2 HB1.out hb2)
  clear hb2 HB1 HR HC
  rw [HS.out]
  clear hd hXl
  go_wp2_with fail
  refine (num none 0 [] 258 w2 (nil_reads _ _) (by simp)).mono ?_
  rintro e w3 ⟨v3, X3, rfl, hv3, HX3, hb3⟩
  obtain ⟨A3, c3, rfl, hc3, hr3⟩ := hv3.reads
  have HR3 := Aside0.mk hr3
  have HB3 := Aside0.mk (two_and w w2 w3 HB2.out hb3)
  clear hr3 hc3 hb3 hv3 HB2
  go_wp2_with fail
  refine (sameBytes A3 c3 _ (some ⟨w3.heap.size, 0, none⟩) 8 [0, 0, 0, 0, 0, 0, 1, 2] _ (Kd.C_alloc HR3.out _) (lit_nums w3 .u8 _ _ _ rfl (by simp)) true (by rw [HX3.out]; decide)).mono ?_
  rintro e w4 ⟨rfl, hb4⟩
  have HB4 := Aside0.mk (two_and w _ w4 (HB3.out.alloc HB3.out.size _) hb4)
  clear hb4
  go_wp2_with fail
  go_ret
  exact ⟨rfl, HB4.out⟩

/-- A list's bytes as one number. -/
def valb : List Int → Int
  | [] => 0
  | x :: xs => x * 256 ^ xs.length + valb xs
def u8 (x : Int) : UInt8 := UInt8.ofNat x.toNat
theorem u8_lt (x y : Int) (h0 : 0 ≤ x) (h1 : x < 256) (h2 : 0 ≤ y) (h3 : y < 256) : (u8 x < u8 y) ↔ x < y := by
  unfold u8
  rw [UInt8.lt_iff_toNat_lt, UInt8.toNat_ofNat_of_lt' (by show x.toNat < 256; omega), UInt8.toNat_ofNat_of_lt' (by show y.toNat < 256; omega)]
  omega
theorem u8_eq (x y : Int) (h0 : 0 ≤ x) (h1 : x < 256) (h2 : 0 ≤ y) (h3 : y < 256) : (u8 x = u8 y) ↔ x = y := by
  unfold u8
  rw [← UInt8.toNat_inj, UInt8.toNat_ofNat_of_lt' (by show x.toNat < 256; omega), UInt8.toNat_ofNat_of_lt' (by show y.toNat < 256; omega)]
  omega
theorem valb_range : ∀ l : List Int, (∀ x ∈ l, 0 ≤ x ∧ x < 256) → 0 ≤ valb l ∧ valb l < 256 ^ l.length
  | [], _ => by simp [valb]
  | x :: xs, h => by
    have ih := valb_range xs (fun y hy => h y (List.mem_cons_of_mem _ hy))
    have hx := h x (List.mem_cons_self ..)
    have hp : (0 : Int) < 256 ^ xs.length := Int.pow_pos (by omega)
    have h1 : x * 256 ^ xs.length ≤ 255 * 256 ^ xs.length := Int.mul_le_mul_of_nonneg_right (by omega) (by omega)
    have h2 : 0 ≤ x * 256 ^ xs.length := Int.mul_nonneg hx.1 (by omega)
    have e : valb (x :: xs) = x * 256 ^ xs.length + valb xs := rfl
    rw [e, List.length_cons, Int.pow_succ]
    omega
theorem less_valb : ∀ xs ys : List Int, xs.length = ys.length → (∀ x ∈ xs, 0 ≤ x ∧ x < 256) → (∀ x ∈ ys, 0 ≤ x ∧ x < 256) → Op.bytesLess (xs.map u8) (ys.map u8) = decide (valb xs < valb ys)
  | [], [], _, _, _ => rfl
  | x :: xs, [], h, _, _ => by simp at h
  | [], y :: ys, h, _, _ => by simp at h
  | x :: xs, y :: ys, h, hx, hy => by
    have hl : xs.length = ys.length := by simpa using h
    have hx1 := fun z hz => hx z (List.mem_cons_of_mem x hz)
    have hy1 := fun z hz => hy z (List.mem_cons_of_mem y hz)
    have ih := less_valb xs ys hl hx1 hy1
    have vx := valb_range xs hx1
    have vy := valb_range ys hy1
    have rx := hx x (List.mem_cons_self ..)
    have ry := hy y (List.mem_cons_self ..)
    have e1 : valb (x :: xs) = x * 256 ^ ys.length + valb xs := by rw [← hl]; rfl
    have e2 : valb (y :: ys) = y * 256 ^ ys.length + valb ys := rfl
    rw [hl] at vx
    have hp : (0 : Int) < 256 ^ ys.length := Int.pow_pos (by omega)
    simp only [List.map_cons, Op.bytesLess, ih]
    rcases Int.lt_trichotomy x y with hlt | heq | hgt
    · have h1 : (x + 1) * 256 ^ ys.length ≤ y * 256 ^ ys.length := Int.mul_le_mul_of_nonneg_right (by omega) (by omega)
      rw [Int.add_mul, Int.one_mul] at h1
      rw [decide_eq_true ((u8_lt x y rx.1 rx.2 ry.1 ry.2).2 hlt), Bool.true_or, e1, e2]
      exact (decide_eq_true (by omega)).symm
    · subst heq
      rw [decide_eq_false (fun hh => absurd ((u8_lt x x rx.1 rx.2 rx.1 rx.2).1 hh) (by omega)), e1, e2]
      simp
    · have h1 : (y + 1) * 256 ^ ys.length ≤ x * 256 ^ ys.length := Int.mul_le_mul_of_nonneg_right (by omega) (by omega)
      rw [Int.add_mul, Int.one_mul] at h1
      rw [decide_eq_false (fun hh => absurd ((u8_lt x y rx.1 rx.2 ry.1 ry.2).1 hh) (by omega))]
      have hne : (u8 x == u8 y) = false := beq_eq_false_iff_ne.2 fun hh => absurd ((u8_eq x y rx.1 rx.2 ry.1 ry.2).1 hh) (by omega)
      rw [hne, Bool.false_and, Bool.or_false, e1, e2]
      exact (decide_eq_false (by omega)).symm
theorem bytes8_range (n : Int) : ∀ x ∈ bytes8 n 8, 0 ≤ x ∧ x < 256 := fun x hx => by
  obtain ⟨i, _, rfl⟩ := List.mem_map.1 hx
  exact byteN_range n i
theorem valb_bytes8 (n : Int) (h0 : 0 ≤ n) (h1 : n < 18446744073709551616) : valb (bytes8 n 8) = n := by
  obtain ⟨u, hu⟩ : ∃ u, u = IntKind.u64.wrap n := ⟨_, rfl⟩
  have hu' : u = n := by rw [hu, u64_wrap]; omega
  have e : bytes8 n 8 = [u / 72057594037927936 % 256, u / 281474976710656 % 256, u / 1099511627776 % 256, u / 4294967296 % 256, u / 16777216 % 256, u / 65536 % 256, u / 256 % 256, u / 1 % 256] := by
    simp [bytes8, byteN, List.range_succ, ← hu]
  rw [e]
  simp [valb]
  omega
theorem str_toList (xs : List Int) : (strOfNums xs).toList = xs.map u8 := by
  rw [ByteArray.toList_eq]
  rfl
theorem order_less (n m : Int) (hn : 0 ≤ n ∧ n < 4611686018427387904) (hm : 0 ≤ m ∧ m < 4611686018427387904) : Op.bytesLess (strOfNums (bytes8 n 8)).toList (strOfNums (bytes8 m 8)).toList = decide (n < m) := by
  rw [str_toList, str_toList, less_valb _ _ (by simp [bytes8_length]) (bytes8_range n) (bytes8_range m), valb_bytes8 n hn.1 (by omega), valb_bytes8 m hm.1 (by omega)]
theorem order_eq (n m : Int) (hn : 0 ≤ n ∧ n < 4611686018427387904) (hm : 0 ≤ m ∧ m < 4611686018427387904) : ((strOfNums (bytes8 n 8)).toList == (strOfNums (bytes8 m 8)).toList) = (n == m) := by
  rw [str_toList, str_toList, Bool.eq_iff_iff, beq_iff_eq, beq_iff_eq]
  constructor
  · intro h
    have hl := order_less n m hn hm
    have hg := order_less m n hm hn
    rw [str_toList, str_toList] at hl hg
    rw [h] at hl hg
    have hirr : ∀ l : List UInt8, Op.bytesLess l l = false := by
      intro l
      induction l with
      | nil => rfl
      | cons a l ih => simp [Op.bytesLess, ih]
    rw [hirr] at hl hg
    have h1 := of_decide_eq_false hl.symm
    have h2 := of_decide_eq_false hg.symm
    omega
  · rintro rfl
    rfl

set_option maxHeartbeats 1600000 in
theorem codeOrder_walk (W : World) (a : Int) (wa : (Lit.int .i64 a).wf = true) (b : Int) (wb : (Lit.int .i64 b).wf = true) :
    Calls Try.prog 10 #[.int .i64 a, .int .i64 b] W fun e w' => e = .returned (.bool true) ∧ Below W.heap.size W w' := by
  clear wa wb
  obtain ⟨n, hn⟩ : ∃ n, n = lowN a 4611686018427387904 := ⟨_, rfl⟩
  obtain ⟨m, hm⟩ : ∃ m, m = lowN b 4611686018427387904 := ⟨_, rfl⟩
  have rn : 0 ≤ n ∧ n < 4611686018427387904 := by rw [hn]; exact lowN_range _ _ (by omega)
  have rm : 0 ≤ m ∧ m < 4611686018427387904 := by rw [hm]; exact lowN_range _ _ (by omega)
  have ln : (bytes8 n 8).length = 8 := bytes8_length _ _
  have lm : (bytes8 m 8).length = 8 := bytes8_length _ _
  have hbl := order_less n m rn rm
  have hbe := order_eq n m rn rm
  have HN := Aside0.mk hn
  have HM := Aside0.mk hm
  have RN := Aside0.mk rn
  have RM := Aside0.mk rm
  clear hn hm rn rm
  go_enter Try.func10, Try.ntmps10
  go_wp2_with fail
  refine (low a _ W (by omega) (by omega)).mono ?_
  rintro e w1 ⟨rfl, rfl⟩
  rw [← HN.out]
  go_wp2_with fail
  refine (low b _ _ (by omega) (by omega)).mono ?_
  rintro e w2 ⟨rfl, rfl⟩
  rw [← HM.out]
  go_wp2_with fail
  refine (num none 0 [] n _ (nil_reads _ _) (by simp)).mono ?_
  rintro e w3 ⟨v3, X3, rfl, hv3, HX3, hb3⟩
  obtain rfl := HX3.out
  obtain ⟨A3, c3, rfl, hc3, hr3⟩ := hv3.reads
  have HR3 := Aside0.mk hr3
  have HB3 := Aside0.mk hb3
  clear hr3 hc3 hb3 hv3
  go_wp2_with fail
  refine (num none 0 [] m _ (nil_reads _ _) (by simp)).mono ?_
  rintro e w4 ⟨v4, X4, rfl, hv4, HX4, hb4⟩
  obtain rfl := HX4.out
  obtain ⟨A4, c4, rfl, hc4, hr4⟩ := hv4.reads
  rw [List.nil_append] at hr4
  have hr3' := Kd.C_below HR3.out hb4
  rw [List.nil_append] at hr3'
  have HR4 := Aside0.mk hr4
  have HR3' := Aside0.mk hr3'
  clear hr3'
  have HB4 := Aside0.mk (two_and _ _ _ HB3.out hb4)
  clear hr4 hc4 hb4 hv4 HB3 HR3
  go_wp2_with fail
  refine upon_runs (string_runs Try.prog 38 5 9 Try.underlying38 Try.underlying5 Try.underlying9 HR3'.out (by omega)) ?_
  rintro _ w5 ⟨rfl, rfl⟩
  go_wp2_with fail
  refine upon_runs (string_runs Try.prog 38 5 9 Try.underlying38 Try.underlying5 Try.underlying9 HR4.out (by omega)) ?_
  rintro _ w5 ⟨rfl, rfl⟩
  go_wp2_with fail
  refine upon_runs (string_runs Try.prog 38 5 9 Try.underlying38 Try.underlying5 Try.underlying9 HR3'.out (by omega)) ?_
  rintro _ w5 ⟨rfl, rfl⟩
  go_wp2_with fail
  refine upon_runs (string_runs Try.prog 38 5 9 Try.underlying38 Try.underlying5 Try.underlying9 HR4.out (by omega)) ?_
  rintro _ w5 ⟨rfl, rfl⟩
  go_wp2_with fail
  refine (awake1 _).mono ?_
  rintro e w6 ⟨rfl, hb6⟩
  have HB6 := Aside0.mk (two_and _ _ _ HB4.out hb6)
  clear hb6
  go_wp2_with fail
  go_ret
  exact ⟨rfl, HB6.out⟩

/-- A slice of own, read; what it reads stays through quiet steps. -/
theorem own_open {α : Type} {d : Kd α} {e : TypeId} {w : World} {base : Nat} {v : Value} {xs : List α} (h : Own d e w base v xs) : ∃ A c, v = .slice A xs.length c ∧ xs.length ≤ c ∧ d.C w A xs.length xs := h.reads

set_option maxHeartbeats 1600000 in
theorem codeLays_walk (W : World) (A0 : Option Addr) (c0 : Nat) (l0 : List Int) (hr0 : Kd.C (Kd.int .u8) W A0 l0.length l0) (hc0 : l0.length ≤ c0) (hg0 : ∀ x ∈ l0, (Lit.int .u8 x).wf = true) (n : Int) (wn : (Lit.int .i64 n).wf = true) (s : ByteArray) (ws : s.size ≤ 140737488351232) :
    Calls Try.prog 6 #[.slice A0 l0.length c0, .int .i64 n, .string s] W fun e w' => e = .returned (.bool true) ∧ Below W.heap.size W w' := by
  have hm0 := Kd.C_max hr0
  have HR0 := Aside0.mk hr0
  clear hr0 hg0 wn
  by_cases hbig : 300 < l0.length ∨ 300 < s.size
  · rcases Nat.lt_or_ge 300 l0.length with h1 | h1
    · clear hbig
      go_enter Try.func6, Try.ntmps6
      go_wp2_with fail
      refine (awake1 _).mono ?_
      rintro e w6 ⟨rfl, hb6⟩
      go_wp2_with fail
      go_ret
      exact ⟨rfl, hb6⟩
    · have h2 : 300 < s.size := by omega
      clear hbig
      go_enter Try.func6, Try.ntmps6
      go_wp2_with fail
      refine (awake1 _).mono ?_
      rintro e w6 ⟨rfl, hb6⟩
      go_wp2_with fail
      go_ret
      exact ⟨rfl, hb6⟩
  · have h1 : l0.length ≤ 300 := by omega
    have h2 : s.size ≤ 300 := by omega
    clear hbig
    go_enter Try.func6, Try.ntmps6
    go_wp2_with fail
    refine (lendBytes A0 c0 l0 W HR0.out (by omega)).mono ?_
    rintro e w1 ⟨g, rfl, hL1, hb1⟩
    have HL1 := Aside0.mk hL1
    have HB1 := Aside0.mk hb1
    clear hL1 hb1
    go_wp2_with fail
    refine (num _ _ l0 n w1 (HL1.out.reads (by omega)) (by omega)).mono ?_
    rintro e w2 ⟨vx, X, rfl, hx2, HX, hb2⟩
    obtain ⟨Ax, cx, rfl, _, _⟩ := hx2.reads
    have HX2 := Aside0.mk hx2
    have HB2 := Aside0.mk hb2
    have HL2 := Aside0.mk (HL1.out.below hb2)
    have G1 := Aside0.mk HL1.out.lt
    have S2 := Aside0.mk hb2.size
    clear hx2 hb2 HL1
    go_wp2_with fail
    refine (text _ _ l0 s w2 (HL2.out.reads (by omega)) (by omega) (by omega)).mono ?_
    rintro e w3 ⟨vy, Y, rfl, hy3, HY, hb3⟩
    obtain ⟨Ay, cy, rfl, _, _⟩ := hy3.reads
    have HY3 := Aside0.mk hy3
    have HX3 := Aside0.mk (HX2.out.below hb3)
    have HL3 := Aside0.mk (HL2.out.below hb3)
    have LX := Aside0.mk HX2.out.lt
    have HB3 := Aside0.mk (two_and _ _ _ (two_and _ _ _ HB1.out HB2.out) hb3)
    clear hy3 hb3 HX2 HL2 HB2
    go_wp2_with fail
    refine (refNum A0 c0 l0 n w3 (Kd.C_below HR0.out HB3.out) (by omega)).mono ?_
    rintro e w4 ⟨vr, Z, rfl, hr4, HZ, hb4⟩
    obtain ⟨Ar, cr, rfl, _, hrr4⟩ := hr4.reads
    have HRR := Aside0.mk hrr4
    have HX4 := Aside0.mk (HX3.out.below hb4)
    have HY4 := Aside0.mk (HY3.out.below hb4)
    have HL4 := Aside0.mk (HL3.out.below hb4)
    have HB4 := Aside0.mk (two_and _ _ _ HB3.out hb4)
    clear hr4 hrr4 hb4 HX3 HY3 HL3 HB3
    go_wp2_with fail
    refine (sameBytes _ _ X _ _ Z w4 HX4.out.is.2.2 HRR.out true (by rw [HX.out, HZ.out]; simp)).mono ?_
    rintro e w5 ⟨rfl, hb5⟩
    have HX5 := Aside0.mk (HX4.out.below hb5)
    have HY5 := Aside0.mk (HY4.out.below hb5)
    have HL5 := Aside0.mk (HL4.out.below hb5)
    have HB5 := Aside0.mk (two_and _ _ _ HB4.out hb5)
    clear hb5 HX4 HY4 HL4 HB4 HRR
    go_wp2_with fail
    refine (refText A0 c0 l0 s w5 (Kd.C_below HR0.out HB5.out) (by omega) (by omega)).mono ?_
    rintro e w6 ⟨vr, Z6, rfl, hr6, HZ6, hb6⟩
    obtain ⟨Ar6, cr6, rfl, _, hrr6⟩ := hr6.reads
    have HRR := Aside0.mk hrr6
    have HX6 := Aside0.mk (HX5.out.below hb6)
    have HY6 := Aside0.mk (HY5.out.below hb6)
    have HL6 := Aside0.mk (HL5.out.below hb6)
    have HB6 := Aside0.mk (two_and _ _ _ HB5.out hb6)
    clear hr6 hrr6 hb6 HX5 HY5 HL5 HB5
    go_wp2_with fail
    refine (sameBytes _ _ Y _ _ Z6 w6 HY6.out.is.2.2 HRR.out true (by rw [HY.out, HZ6.out]; simp)).mono ?_
    rintro e w7 ⟨rfl, hb7⟩
    have HX7 := Aside0.mk (HX6.out.below hb7)
    have HY7 := Aside0.mk (HY6.out.below hb7)
    have HL7 := Aside0.mk (HL6.out.below hb7)
    have HB7 := Aside0.mk (two_and _ _ _ HB6.out hb7)
    clear hb7 HX6 HY6 HL6 HB6 HRR
    go_wp2_with fail
    refine (keptBytes g A0 c0 l0 l0 w7 _ HL7.out (Kd.C_below HR0.out HB7.out) (by omega) true (by simp)).mono ?_
    rintro e w8 ⟨rfl, hb8⟩
    have HX8 := Aside0.mk (HX7.out.below hb8)
    have HY8 := Aside0.mk (HY7.out.below hb8)
    have HL8 := Aside0.mk (HL7.out.below hb8)
    have HB8 := Aside0.mk (two_and _ _ _ HB7.out hb8)
    clear hb8 HX7 HY7 HL7 HB7
    go_wp2_with fail
    have hX8 : X.length ≤ 100000000 := by rw [HX.out]; simp [bytes8_length]; omega
    have hY8 : Y.length ≤ 100000000 := by rw [HY.out]; simp [bytes8_length, bytesOf_length]; omega
    refine (overBytes _ X W.heap.size w8 (HX8.out.lower HB1.out.size) HB8.out.size hX8).mono ?_
    rintro e w9 ⟨rfl, hg9⟩
    have HL9 := Aside0.mk (HL8.out.other hg9 (fun k hk => by have h1 := HX8.out.base_ k hk; have h2 := G1.out; omega))
    have HY9 := Aside0.mk (HY8.out.other (flat_int .u8) hg9 (fun k hk he => by have h1 := HY8.out.base_ k hk; have h2 := LX.out k he; omega))
    have HB9 := Aside0.mk (HB8.out.grown hg9 HB8.out.size (fun k hk => Nat.le_trans HB1.out.size (HX8.out.base_ k hk)))
    clear hg9 HX8 HY8 HL8 HB8 hX8
    go_wp2_with fail
    refine (overBytes _ Y W.heap.size w9 (HY9.out.lower (Nat.le_trans HB1.out.size S2.out)) HB9.out.size hY8).mono ?_
    rintro e w10 ⟨rfl, hg10⟩
    have HL10 := Aside0.mk (HL9.out.other hg10 (fun k hk => by have h1 := HY9.out.base_ k hk; have h2 := G1.out; have h3 := S2.out; omega))
    have HB10 := Aside0.mk (HB9.out.grown hg10 HB9.out.size (fun k hk => Nat.le_trans (Nat.le_trans HB1.out.size S2.out) (HY9.out.base_ k hk)))
    clear hg10 HY9 HL9 HB9 hY8
    go_wp2_with fail
    refine (sameBytes _ _ l0 _ _ l0 w10 (HL10.out.reads (by omega)) (Kd.C_below HR0.out HB10.out) true (by simp)).mono ?_
    rintro e w11 ⟨rfl, hb11⟩
    have HB11 := Aside0.mk (two_and _ _ _ HB10.out hb11)
    clear hb11 HB10 HL10
    go_wp2_with fail
    refine (awake1 _).mono ?_
    rintro e w12 ⟨rfl, hb12⟩
    have HB12 := Aside0.mk (two_and _ _ _ HB11.out hb12)
    clear hb12 HB11
    go_wp2_with fail
    go_ret
    exact ⟨rfl, HB12.out⟩

theorem wf_i64 {n : Int} (h : (Lit.int .i64 n).wf = true) : -9223372036854775808 ≤ n ∧ n ≤ 9223372036854775807 := by
  simpa [Lit.wf, IntKind.min, IntKind.max, IntKind.signed, IntKind.bits] using h

set_option maxHeartbeats 1600000 in
theorem codeReads_walk (W : World) (A0 : Option Addr) (c0 : Nat) (l0 : List Int) (hr0 : Kd.C (Kd.int .u8) W A0 l0.length l0) (hc0 : l0.length ≤ c0) (hg0 : ∀ x ∈ l0, (Lit.int .u8 x).wf = true) (n : Int) (wn : (Lit.int .i64 n).wf = true) :
    Calls Try.prog 7 #[.slice A0 l0.length c0, .int .i64 n] W fun e w' => e = .returned (.bool true) ∧ Below W.heap.size W w' := by
  have hm0 := Kd.C_max hr0
  have HR0 := Aside0.mk hr0
  have HW := Aside0.mk (wf_i64 wn)
  clear hr0 hg0 wn
  rcases Nat.lt_or_ge 300 l0.length with h1 | h1
  · go_enter Try.func7, Try.ntmps7
    go_wp2_with fail
    refine (awake1 _).mono ?_
    rintro e w6 ⟨rfl, hb6⟩
    go_wp2_with fail
    go_ret
    exact ⟨rfl, hb6⟩
  · obtain ⟨q, hq⟩ : ∃ q, q = rdNum l0 n := ⟨_, rfl⟩
    obtain ⟨r, hr⟩ : ∃ r, r = rdText l0 n := ⟨_, rfl⟩
    have HQ := Aside0.mk hq
    have HRT := Aside0.mk hr
    clear hq hr
    go_enter Try.func7, Try.ntmps7
    go_wp2_with fail
    refine (readNum_any A0 c0 l0 n W HR0.out hc0 HW.out.2 q HQ.out).mono ?_
    rintro e w1 ⟨rfl, hb1⟩
    have HB1 := Aside0.mk hb1
    clear hb1
    obtain ⟨q1, q2, q3⟩ := q
    go_wp2_with fail
    refine (refReadNum_any A0 c0 l0 n w1 (Kd.C_below HR0.out HB1.out) hc0 HW.out.2 (q1, q2, q3) HQ.out).mono ?_
    rintro e w2 ⟨rfl, hb2⟩
    have HB2 := Aside0.mk (two_and _ _ _ HB1.out hb2)
    clear hb2 HB1
    go_wp2_with fail
    refine (readText_any A0 c0 l0 n w2 (Kd.C_below HR0.out HB2.out) hc0 HW.out.2 r HRT.out).mono ?_
    rintro e w3 ⟨rfl, hb3⟩
    have HB3 := Aside0.mk (two_and _ _ _ HB2.out hb3)
    clear hb3 HB2
    obtain ⟨r1, r2, r3⟩ := r
    go_wp2_with fail
    refine (refReadText_any A0 c0 l0 n w3 (Kd.C_below HR0.out HB3.out) hc0 HW.out.2 (r1, r2, r3) HRT.out).mono ?_
    rintro e w4 ⟨rfl, hb4⟩
    have HB4 := Aside0.mk (two_and _ _ _ HB3.out hb4)
    clear hb4 HB3
    go_wp2_with fail
    refine (awake1 _).mono ?_
    rintro e w6 ⟨rfl, hb6⟩
    have HB6 := Aside0.mk (two_and _ _ _ HB4.out hb6)
    clear hb6
    go_wp2_with fail
    go_ret
    exact ⟨rfl, HB6.out⟩

theorem rdText_false (l : List Int) (at_ : Int) (h : (rdText l at_).2.2 = false) : rdText l at_ = (⟨#[]⟩, 0, false) := by
  unfold rdText at h ⊢
  split
  · rename_i h1
    rw [if_pos h1] at h
    split
    · rename_i h2
      rw [if_pos h2] at h
      cases h
    · rfl
  · rfl
theorem rdNum_false (l : List Int) (at_ : Int) (h : at_ < 0) : rdNum l at_ = (0, 0, false) := by
  unfold rdNum
  rw [if_neg (by omega)]
theorem wf_i64_mk {n : Int} (h : -9223372036854775808 ≤ n ∧ n ≤ 9223372036854775807) : (Lit.int .i64 n).wf = true := by
  simpa [Lit.wf, IntKind.min, IntKind.max, IntKind.signed, IntKind.bits] using h

set_option maxHeartbeats 1600000 in
theorem codeShort_walk (W : World) (s : ByteArray) (ws : s.size ≤ 140737488351232) (cut : Int) (wc : (Lit.int .i64 cut).wf = true) (n : Int) (wn : (Lit.int .i64 n).wf = true) :
    Calls Try.prog 9 #[.string s, .int .i64 cut, .int .i64 n] W fun e w' => e = .returned (.bool true) ∧ Below W.heap.size W w' := by
  clear wc wn
  rcases Nat.lt_or_ge 100 s.size with h1 | h1
  · go_enter Try.func9, Try.ntmps9
    go_wp2_with fail
    refine (awake1 _).mono ?_
    rintro e w6 ⟨rfl, hb6⟩
    go_wp2_with fail
    go_ret
    exact ⟨rfl, hb6⟩
  · go_enter Try.func9, Try.ntmps9
    go_wp2_with fail
    refine (text none 0 [] s W (nil_reads _ _) (by simp) (by omega)).mono ?_
    rintro e w1 ⟨v1, X, rfl, hv1, HX, hb1⟩
    obtain ⟨A, c, rfl, hc, hr⟩ := hv1.reads
    have hxl : X.length = s.size + 8 := by rw [HX.out]; simp [bytes8_length, bytesOf_length]; omega
    have hx8 : X.take 8 = bytes8 s.size 8 := by rw [HX.out, List.nil_append, List.take_left' (bytes8_length _ _)]
    have hd8 : dec8 (X.take 8) = s.size := by rw [hx8, dec8_bytes8 _ (by omega) (by omega)]
    have HD8 := Aside0.mk hd8
    have HXL := Aside0.mk hxl
    have hxlo : 8 ≤ X.length := by omega
    have hxhi : X.length ≤ 108 := by omega
    have HR := Aside0.mk hr
    have HB1 := Aside0.mk hb1
    clear hr hb1 hv1 hx8 hd8 hxl
    have hne : ((X.length : Int) == 0) = false := beq_eq_false_iff_ne.2 (by omega)
    have hne' : (X.length == 0) = false := beq_eq_false_iff_ne.2 (by omega)
    have hne2 : ¬ (X = []) := fun h => by rw [h] at hxlo; simp at hxlo
    go_wp2_with fail
    obtain ⟨k, hk⟩ : ∃ k, k = lowN cut X.length := ⟨_, rfl⟩
    have rk : 0 ≤ k ∧ k < X.length := by rw [hk]; exact lowN_range _ _ (by omega)
    have HK := Aside0.mk hk
    obtain ⟨k, rfl⟩ := Int.eq_ofNat_of_zero_le rk.1
    have rk2 : k < X.length := by omega
    clear hk rk
    refine (low cut _ _ (by omega) (by omega)).mono ?_
    rintro e w2 ⟨rfl, rfl⟩
    rw [← HK.out]
    go_wp2_with fail
    have hz : rdText (X.take k) 0 = (⟨#[]⟩, 0, false) := by
      refine rdText_false _ _ ?_
      unfold rdText
      have hl : (X.take k).length = k := by rw [List.length_take]; omega
      by_cases h8 : 8 ≤ k
      · rw [if_pos (by rw [hl]; omega)]
        have e8 : ((X.take k).drop (0 : Int).toNat).take 8 = X.take 8 := by
          rw [Int.toNat_zero, List.drop_zero, List.take_take, Nat.min_eq_left h8]
        have hx := HXL.out
        rw [e8, HD8.out, if_neg (by rw [hl]; omega)]
      · rw [if_neg (by rw [hl]; omega)]
    have HZ := Aside0.mk hz.symm
    clear hz
    have hct := Kd.C_take (m := k) HR.out (by omega)
    have hlk : (X.take k).length = k := by rw [List.length_take]; omega
    have HCT := Aside0.mk hct
    have HLK := Aside0.mk hlk
    clear hct hlk
    have hcall := readText_any A c (X.take k) 0 w2 HCT.out (by rw [HLK.out]; omega) (by omega) _ HZ.out
    rw [HLK.out] at hcall
    refine hcall.mono ?_
    clear hcall
    rintro e w3 ⟨rfl, hb3⟩
    have HB3 := Aside0.mk (two_and _ _ _ HB1.out hb3)
    have HR3 := Aside0.mk (Kd.C_below HR.out hb3)
    clear hb3 HB1 HR HCT
    go_wp2_with fail
    obtain ⟨u, hu⟩ : ∃ u, u = lowN n 1099511627776 := ⟨_, rfl⟩
    have ru : 0 ≤ u ∧ u < 1099511627776 := by rw [hu]; exact lowN_range _ _ (by omega)
    have HU := Aside0.mk hu
    clear hu
    refine (low n _ _ (by omega) (by omega)).mono ?_
    rintro e w4 ⟨rfl, rfl⟩
    rw [← HU.out]
    obtain ⟨ru0, ru1⟩ := ru
    go_wp2_with fail
    refine (num none 0 [] (-1 - u) _ (nil_reads _ _) (by simp)).mono ?_
    rintro e w5 ⟨v5, Y, rfl, hv5, HY, hb5⟩
    obtain ⟨A5, c5, rfl, hc5, hr5⟩ := hv5.reads
    have HR5 := Aside0.mk hr5
    have HB5 := Aside0.mk (two_and _ _ _ HB3.out hb5)
    have HRX5 := Aside0.mk (Kd.C_below HR3.out hb5)
    clear hr5 hb5 hv5 HB3 HR3
    have hy : rdText Y 0 = (⟨#[]⟩, 0, false) := by
      refine rdText_false _ _ ?_
      unfold rdText
      have hl : Y.length = 8 := by rw [HY.out]; simp [bytes8_length]
      rw [if_pos (by rw [hl]; omega)]
      have e8 : (Y.drop (0 : Int).toNat).take 8 = bytes8 (-1 - u) 8 := by
        rw [Int.toNat_zero, List.drop_zero, HY.out, List.nil_append, List.take_of_length_le (by simp [bytes8_length])]
      rw [e8, dec8_bytes8 _ (by omega) (by omega), if_neg (by omega)]
    have HYY := Aside0.mk hy.symm
    clear hy
    go_wp2_with fail
    refine (readText_any A5 c5 Y 0 w5 HR5.out hc5 (by omega) _ HYY.out).mono ?_
    rintro e w6 ⟨rfl, hb6⟩
    have HB6 := Aside0.mk (two_and _ _ _ HB5.out hb6)
    have HRX6 := Aside0.mk (Kd.C_below HRX5.out hb6)
    clear hb6 HB5 HRX5 HR5
    go_wp2_with fail
    obtain ⟨t, ht⟩ : ∃ t, t = lowN n 20 := ⟨_, rfl⟩
    have rt : 0 ≤ t ∧ t < 20 := by rw [ht]; exact lowN_range _ _ (by omega)
    have HT := Aside0.mk ht
    clear ht
    refine (low n _ _ (by omega) (by omega)).mono ?_
    rintro e w7 ⟨rfl, rfl⟩
    rw [← HT.out]
    obtain ⟨rt0, rt1⟩ := rt
    go_wp2_with fail
    have hq : rdText X ((X.length : Int) - 7 + t) = (⟨#[]⟩, 0, false) := by
      unfold rdText
      rw [if_neg (by omega)]
    have HQ := Aside0.mk hq.symm
    clear hq
    refine (readText_any A c X _ _ HRX6.out hc (by omega) _ HQ.out).mono ?_
    rintro e w8 ⟨rfl, hb8⟩
    have HB8 := Aside0.mk (two_and _ _ _ HB6.out hb8)
    have HRX8 := Aside0.mk (Kd.C_below HRX6.out hb8)
    clear hb8 HB6 HRX6
    go_wp2_with fail
    refine (low n _ _ (by omega) (by omega)).mono ?_
    rintro e w9 ⟨rfl, rfl⟩
    rw [← HT.out]
    go_wp2_with fail
    refine (readNum_any A c X _ _ HRX8.out hc (by omega) _ (rdNum_false X (-1 - t) (by omega)).symm).mono ?_
    rintro e w10 ⟨rfl, hb10⟩
    have HB10 := Aside0.mk (two_and _ _ _ HB8.out hb10)
    clear hb10 HB8 HRX8
    go_wp2_with fail
    refine (awake1 _).mono ?_
    rintro e w12 ⟨rfl, hb12⟩
    have HB12 := Aside0.mk (two_and _ _ _ HB10.out hb12)
    clear hb12
    go_wp2_with fail
    go_ret
    exact ⟨rfl, HB12.out⟩
end Go.Proofs.Ytocooepdibgelaa.K
