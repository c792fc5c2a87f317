/- The statements of chapter 1: what the walks of their code come to. -/
import Derived.Test.YtocooepdibgelaaKB2
import Derived.Test.YtocooepdibgelaaKL
set_option linter.unusedVariables false
set_option linter.unusedSimpArgs false
namespace Go.Proofs.Ytocooepdibgelaa.K
open Go.RowKit Go.Proofs.YtocooepdibgelaaW.PrintWords Go.Proofs.YtocooepdibgelaaW.PrintLast Go.Proofs.YtocooepdibgelaaW.PrintMore Go.Proofs.Ytocooepdibgelaa.U Go.Proofs.Ytocooepdibgelaa.T

theorem nil_reads {α : Type} (d : Kd α) (w : World) : Kd.C d w none ([] : List α).length [] := Kd.C_nil d w
theorem two_and (w w1 w2 : World) (h : Below w.heap.size w w1) (k : Below w1.heap.size w1 w2) : Below w.heap.size w w2 := below_then h h.size k

set_option maxHeartbeats 800000 in
theorem awake1 (w : World) : Calls Try.prog 28 #[] w fun e w' => e = .returned (.bool true) ∧ Below w.heap.size w w' := by
  go_enter Try.func28, Try.ntmps28
  go_wp2_with fail
  refine (text none 0 [] ⟨#[97, 98]⟩ w (nil_reads _ _) (by simp) (by decide)).mono ?_
  rintro e w1 ⟨v1, rfl, hv1, hb1⟩
  obtain ⟨A, c, rfl, hc, hr⟩ := hv1.reads
  have HR := Aside0.mk hr
  have HC := Aside0.mk hc
  have HB1 := Aside0.mk hb1
  clear hr hc hb1 hv1
  go_wp2_with fail
  have hd : (2 : Int) = dec8 (((([] : List Int) ++ bytes8 (⟨#[97, 98]⟩ : ByteArray).size 8 ++ bytesOf ⟨#[97, 98]⟩).drop 0).take 8) := by
    have h2 : (([] : List Int) ++ bytes8 (⟨#[97, 98]⟩ : ByteArray).size 8 ++ bytesOf ⟨#[97, 98]⟩).drop 0 = bytes8 2 8 ++ [97, 98] := by simp [bytesOf]; rfl
    rw [h2, List.take_left' (bytes8_length _ _), dec8_bytes8 _ (by omega) (by omega)]
  refine (readText_ok A c _ 0 2 w1 HR.out HC.out (by simp [bytes8_length]; decide) hd).mono ?_
  rintro e w2 ⟨rfl, hb2⟩
  have HB2 := Aside0.mk (two_and w w1 w2 HB1.out hb2)
  clear hb2 HB1 HR HC
  have hs : strOfNums (List.take 2 (List.drop (0 + 8) (([] : List Int) ++ bytes8 (⟨#[97, 98]⟩ : ByteArray).size 8 ++ bytesOf ⟨#[97, 98]⟩))) = ⟨#[97, 98]⟩ := by
    have h2 : (([] : List Int) ++ bytes8 (⟨#[97, 98]⟩ : ByteArray).size 8 ++ bytesOf ⟨#[97, 98]⟩) = bytes8 2 8 ++ [97, 98] := by simp [bytesOf]; rfl
    rw [h2, List.drop_left' (bytes8_length _ _)]
    rfl
  rw [hs]
  clear hs hd
  go_wp2_with fail
  refine (num none 0 [] 258 w2 (nil_reads _ _) (by simp)).mono ?_
  rintro e w3 ⟨v3, rfl, hv3, hb3⟩
  obtain ⟨A3, c3, rfl, hc3, hr3⟩ := hv3.reads
  have HR3 := Aside0.mk hr3
  have HB3 := Aside0.mk (two_and w w2 w3 HB2.out hb3)
  clear hr3 hc3 hb3 hv3 HB2
  go_wp2_with fail
  refine (sameBytes A3 c3 _ (some ⟨w3.heap.size, 0, none⟩) 8 [0, 0, 0, 0, 0, 0, 1, 2] _ (Kd.C_alloc HR3.out _) (lit_nums w3 .u8 _ _ _ rfl (by simp)) true (by decide)).mono ?_
  rintro e w4 ⟨rfl, hb4⟩
  have HB4 := Aside0.mk (two_and w _ w4 (HB3.out.alloc HB3.out.size _) hb4)
  clear hb4
  go_wp2_with fail
  go_ret
  exact ⟨rfl, HB4.out⟩

/-- A list's bytes as one number. -/
def valb : List Int → Int
  | [] => 0
  | x :: xs => x * 256 ^ xs.length + valb xs
def u8 (x : Int) : UInt8 := UInt8.ofNat x.toNat
theorem u8_lt (x y : Int) (h0 : 0 ≤ x) (h1 : x < 256) (h2 : 0 ≤ y) (h3 : y < 256) : (u8 x < u8 y) ↔ x < y := by
  unfold u8
  rw [UInt8.lt_iff_toNat_lt, UInt8.toNat_ofNat_of_lt' (by show x.toNat < 256; omega), UInt8.toNat_ofNat_of_lt' (by show y.toNat < 256; omega)]
  omega
theorem u8_eq (x y : Int) (h0 : 0 ≤ x) (h1 : x < 256) (h2 : 0 ≤ y) (h3 : y < 256) : (u8 x = u8 y) ↔ x = y := by
  unfold u8
  rw [← UInt8.toNat_inj, UInt8.toNat_ofNat_of_lt' (by show x.toNat < 256; omega), UInt8.toNat_ofNat_of_lt' (by show y.toNat < 256; omega)]
  omega
theorem valb_range : ∀ l : List Int, (∀ x ∈ l, 0 ≤ x ∧ x < 256) → 0 ≤ valb l ∧ valb l < 256 ^ l.length
  | [], _ => by simp [valb]
  | x :: xs, h => by
    have ih := valb_range xs (fun y hy => h y (List.mem_cons_of_mem _ hy))
    have hx := h x (List.mem_cons_self ..)
    have hp : (0 : Int) < 256 ^ xs.length := Int.pow_pos (by omega)
    have h1 : x * 256 ^ xs.length ≤ 255 * 256 ^ xs.length := Int.mul_le_mul_of_nonneg_right (by omega) (by omega)
    have h2 : 0 ≤ x * 256 ^ xs.length := Int.mul_nonneg hx.1 (by omega)
    have e : valb (x :: xs) = x * 256 ^ xs.length + valb xs := rfl
    rw [e, List.length_cons, Int.pow_succ]
    omega
theorem less_valb : ∀ xs ys : List Int, xs.length = ys.length → (∀ x ∈ xs, 0 ≤ x ∧ x < 256) → (∀ x ∈ ys, 0 ≤ x ∧ x < 256) → Op.bytesLess (xs.map u8) (ys.map u8) = decide (valb xs < valb ys)
  | [], [], _, _, _ => rfl
  | x :: xs, [], h, _, _ => by simp at h
  | [], y :: ys, h, _, _ => by simp at h
  | x :: xs, y :: ys, h, hx, hy => by
    have hl : xs.length = ys.length := by simpa using h
    have hx1 := fun z hz => hx z (List.mem_cons_of_mem x hz)
    have hy1 := fun z hz => hy z (List.mem_cons_of_mem y hz)
    have ih := less_valb xs ys hl hx1 hy1
    have vx := valb_range xs hx1
    have vy := valb_range ys hy1
    have rx := hx x (List.mem_cons_self ..)
    have ry := hy y (List.mem_cons_self ..)
    have e1 : valb (x :: xs) = x * 256 ^ ys.length + valb xs := by rw [← hl]; rfl
    have e2 : valb (y :: ys) = y * 256 ^ ys.length + valb ys := rfl
    rw [hl] at vx
    have hp : (0 : Int) < 256 ^ ys.length := Int.pow_pos (by omega)
    simp only [List.map_cons, Op.bytesLess, ih]
    rcases Int.lt_trichotomy x y with hlt | heq | hgt
    · have h1 : (x + 1) * 256 ^ ys.length ≤ y * 256 ^ ys.length := Int.mul_le_mul_of_nonneg_right (by omega) (by omega)
      rw [Int.add_mul, Int.one_mul] at h1
      rw [decide_eq_true ((u8_lt x y rx.1 rx.2 ry.1 ry.2).2 hlt), Bool.true_or, e1, e2]
      exact (decide_eq_true (by omega)).symm
    · subst heq
      rw [decide_eq_false (fun hh => absurd ((u8_lt x x rx.1 rx.2 rx.1 rx.2).1 hh) (by omega)), e1, e2]
      simp
    · have h1 : (y + 1) * 256 ^ ys.length ≤ x * 256 ^ ys.length := Int.mul_le_mul_of_nonneg_right (by omega) (by omega)
      rw [Int.add_mul, Int.one_mul] at h1
      rw [decide_eq_false (fun hh => absurd ((u8_lt x y rx.1 rx.2 ry.1 ry.2).1 hh) (by omega))]
      have hne : (u8 x == u8 y) = false := beq_eq_false_iff_ne.2 fun hh => absurd ((u8_eq x y rx.1 rx.2 ry.1 ry.2).1 hh) (by omega)
      rw [hne, Bool.false_and, Bool.or_false, e1, e2]
      exact (decide_eq_false (by omega)).symm
theorem bytes8_range (n : Int) : ∀ x ∈ bytes8 n 8, 0 ≤ x ∧ x < 256 := fun x hx => by
  obtain ⟨i, _, rfl⟩ := List.mem_map.1 hx
  exact byteN_range n i
theorem valb_bytes8 (n : Int) (h0 : 0 ≤ n) (h1 : n < 18446744073709551616) : valb (bytes8 n 8) = n := by
  obtain ⟨u, hu⟩ : ∃ u, u = IntKind.u64.wrap n := ⟨_, rfl⟩
  have hu' : u = n := by rw [hu, u64_wrap]; omega
  have e : bytes8 n 8 = [u / 72057594037927936 % 256, u / 281474976710656 % 256, u / 1099511627776 % 256, u / 4294967296 % 256, u / 16777216 % 256, u / 65536 % 256, u / 256 % 256, u / 1 % 256] := by
    simp [bytes8, byteN, List.range_succ, ← hu]
  rw [e]
  simp [valb]
  omega
theorem str_toList (xs : List Int) : (strOfNums xs).toList = xs.map u8 := by
  rw [ByteArray.toList_eq]
  rfl
theorem order_less (n m : Int) (hn : 0 ≤ n ∧ n < 4611686018427387904) (hm : 0 ≤ m ∧ m < 4611686018427387904) : Op.bytesLess (strOfNums (bytes8 n 8)).toList (strOfNums (bytes8 m 8)).toList = decide (n < m) := by
  rw [str_toList, str_toList, less_valb _ _ (by simp [bytes8_length]) (bytes8_range n) (bytes8_range m), valb_bytes8 n hn.1 (by omega), valb_bytes8 m hm.1 (by omega)]
theorem order_eq (n m : Int) (hn : 0 ≤ n ∧ n < 4611686018427387904) (hm : 0 ≤ m ∧ m < 4611686018427387904) : ((strOfNums (bytes8 n 8)).toList == (strOfNums (bytes8 m 8)).toList) = (n == m) := by
  rw [str_toList, str_toList, Bool.eq_iff_iff, beq_iff_eq, beq_iff_eq]
  constructor
  · intro h
    have hl := order_less n m hn hm
    have hg := order_less m n hm hn
    rw [str_toList, str_toList] at hl hg
    rw [h] at hl hg
    have hirr : ∀ l : List UInt8, Op.bytesLess l l = false := by
      intro l
      induction l with
      | nil => rfl
      | cons a l ih => simp [Op.bytesLess, ih]
    rw [hirr] at hl hg
    have h1 := of_decide_eq_false hl.symm
    have h2 := of_decide_eq_false hg.symm
    omega
  · rintro rfl
    rfl

set_option maxHeartbeats 1600000 in
theorem codeOrder_walk (W : World) (a : Int) (wa : (Lit.int .i64 a).wf = true) (b : Int) (wb : (Lit.int .i64 b).wf = true) :
    Calls Try.prog 10 #[.int .i64 a, .int .i64 b] W fun e w' => e = .returned (.bool true) ∧ Below W.heap.size W w' := by
  clear wa wb
  obtain ⟨n, hn⟩ : ∃ n, n = lowN a 4611686018427387904 := ⟨_, rfl⟩
  obtain ⟨m, hm⟩ : ∃ m, m = lowN b 4611686018427387904 := ⟨_, rfl⟩
  have rn : 0 ≤ n ∧ n < 4611686018427387904 := by rw [hn]; exact lowN_range _ _ (by omega)
  have rm : 0 ≤ m ∧ m < 4611686018427387904 := by rw [hm]; exact lowN_range _ _ (by omega)
  have ln : (bytes8 n 8).length = 8 := bytes8_length _ _
  have lm : (bytes8 m 8).length = 8 := bytes8_length _ _
  have hbl := order_less n m rn rm
  have hbe := order_eq n m rn rm
  have HN := Aside0.mk hn
  have HM := Aside0.mk hm
  have RN := Aside0.mk rn
  have RM := Aside0.mk rm
  clear hn hm rn rm
  go_enter Try.func10, Try.ntmps10
  go_wp2_with fail
  refine (low a _ W (by omega) (by omega)).mono ?_
  rintro e w1 ⟨rfl, rfl⟩
  rw [← HN.out]
  go_wp2_with fail
  refine (low b _ _ (by omega) (by omega)).mono ?_
  rintro e w2 ⟨rfl, rfl⟩
  rw [← HM.out]
  go_wp2_with fail
  refine (num none 0 [] n _ (nil_reads _ _) (by simp)).mono ?_
  rintro e w3 ⟨v3, rfl, hv3, hb3⟩
  obtain ⟨A3, c3, rfl, hc3, hr3⟩ := hv3.reads
  have HR3 := Aside0.mk hr3
  have HB3 := Aside0.mk hb3
  clear hr3 hc3 hb3 hv3
  go_wp2_with fail
  refine (num none 0 [] m _ (nil_reads _ _) (by simp)).mono ?_
  rintro e w4 ⟨v4, rfl, hv4, hb4⟩
  obtain ⟨A4, c4, rfl, hc4, hr4⟩ := hv4.reads
  rw [List.nil_append] at hr4
  have hr3' := Kd.C_below HR3.out hb4
  rw [List.nil_append] at hr3'
  have HR4 := Aside0.mk hr4
  have HR3' := Aside0.mk hr3'
  clear hr3'
  have HB4 := Aside0.mk (two_and _ _ _ HB3.out hb4)
  clear hr4 hc4 hb4 hv4 HB3 HR3
  go_wp2_with fail
  refine upon_runs (string_runs Try.prog 38 5 9 Try.underlying38 Try.underlying5 Try.underlying9 HR3'.out (by omega)) ?_
  rintro _ w5 ⟨rfl, rfl⟩
  go_wp2_with fail
  refine upon_runs (string_runs Try.prog 38 5 9 Try.underlying38 Try.underlying5 Try.underlying9 HR4.out (by omega)) ?_
  rintro _ w5 ⟨rfl, rfl⟩
  go_wp2_with fail
  refine upon_runs (string_runs Try.prog 38 5 9 Try.underlying38 Try.underlying5 Try.underlying9 HR3'.out (by omega)) ?_
  rintro _ w5 ⟨rfl, rfl⟩
  go_wp2_with fail
  refine upon_runs (string_runs Try.prog 38 5 9 Try.underlying38 Try.underlying5 Try.underlying9 HR4.out (by omega)) ?_
  rintro _ w5 ⟨rfl, rfl⟩
  go_wp2_with fail
  refine (awake1 _).mono ?_
  rintro e w6 ⟨rfl, hb6⟩
  have HB6 := Aside0.mk (two_and _ _ _ HB4.out hb6)
  clear hb6
  go_wp2_with fail
  go_ret
  exact ⟨rfl, HB6.out⟩
end Go.Proofs.Ytocooepdibgelaa.K
