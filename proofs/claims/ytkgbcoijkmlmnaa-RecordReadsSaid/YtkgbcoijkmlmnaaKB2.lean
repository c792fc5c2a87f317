/- What the functions on bytes come to, second part: lent, kept, written over; texts read; the law's own 'awake'. -/
import Derived.Test.YtkgbcoijkmlmnaaKB
import Derived.Test.YtkgbcoijkmlmnaaKS2
set_option linter.unusedVariables false
set_option linter.unusedSimpArgs false
set_option maxRecDepth 100000
namespace Go.Proofs.Ytkgbcoijkmlmnaa.K
open Go.RowKit Go.Proofs.YtkgbcoijkmlmnaaW.PrintWords Go.Proofs.YtkgbcoijkmlmnaaW.PrintLast Go.Proofs.YtkgbcoijkmlmnaaW.PrintMore Go.Proofs.Ytkgbcoijkmlmnaa.U Go.Proofs.Ytkgbcoijkmlmnaa.T

set_option maxHeartbeats 800000 in
theorem readText_no (A0 : Option Addr) (c0 : Nat) (l0 : List Int) (at_ : Int) (w : World) (hr0 : Kd.C (Kd.int .u8) w A0 l0.length l0) (hc0 : l0.length ≤ c0) (h1 : at_ < 0 ∨ (l0.length : Int) < at_ + 8) (h2 : at_ ≤ 9223372036854775807) :
    Calls Try.prog 49 #[.slice A0 l0.length c0, .int .i64 at_] w fun e w' => e = .returned (.tuple #[.string ⟨#[]⟩, .int .i64 0, .bool false]) ∧ Below w.heap.size w w' := by
  have HR0 := Aside0.mk hr0
  have H1 := Aside0.mk h1
  clear hr0 h1
  go_enter Try.func49, Try.ntmps49
  go_wp2_with fail
  refine (readNum_no A0 c0 l0 at_ w HR0.out hc0 H1.out h2).mono ?_
  rintro e w1 ⟨rfl, hb⟩
  have HB := Aside0.mk hb
  clear hb
  go_wp2_with fail
  go_ret3
  exact ⟨rfl, HB.out⟩
set_option maxHeartbeats 800000 in
theorem readText_bad (A0 : Option Addr) (c0 : Nat) (l0 : List Int) (p : Nat) (w : World) (hr0 : Kd.C (Kd.int .u8) w A0 l0.length l0) (hc0 : l0.length ≤ c0) (h1 : p + 8 ≤ l0.length) (n : Int) (hn : n = dec8 ((l0.drop p).take 8)) (h2 : n < 0 ∨ (l0.length : Int) - (p + 8) < n) :
    Calls Try.prog 49 #[.slice A0 l0.length c0, .int .i64 p] w fun e w' => e = .returned (.tuple #[.string ⟨#[]⟩, .int .i64 0, .bool false]) ∧ Below w.heap.size w w' := by
  have hm0 := Kd.C_max hr0
  have HR0 := Aside0.mk hr0
  have HN := Aside0.mk hn
  clear hr0 hn
  rcases h2 with h2 | h2
  · go_enter Try.func49, Try.ntmps49
    go_wp2_with fail
    refine (readNum_ok A0 c0 l0 p w HR0.out hc0 (by omega) (by omega)).mono ?_
    rintro e w1 ⟨rfl, hb⟩
    have HB := Aside0.mk hb
    clear hb
    rw [Int.toNat_natCast, ← HN.out]
    go_wp2_with fail
    go_ret3
    exact ⟨rfl, HB.out⟩
  · by_cases h3 : n < 0
    · clear h2
      go_enter Try.func49, Try.ntmps49
      go_wp2_with fail
      refine (readNum_ok A0 c0 l0 p w HR0.out hc0 (by omega) (by omega)).mono ?_
      rintro e w1 ⟨rfl, hb⟩
      have HB := Aside0.mk hb
      clear hb
      rw [Int.toNat_natCast, ← HN.out]
      go_wp2_with fail
      go_ret3
      exact ⟨rfl, HB.out⟩
    · go_enter Try.func49, Try.ntmps49
      go_wp2_with fail
      refine (readNum_ok A0 c0 l0 p w HR0.out hc0 (by omega) (by omega)).mono ?_
      rintro e w1 ⟨rfl, hb⟩
      have HB := Aside0.mk hb
      clear hb
      rw [Int.toNat_natCast, ← HN.out]
      go_wp2_with fail
      go_ret3
      exact ⟨rfl, HB.out⟩
set_option maxHeartbeats 800000 in
theorem readText_ok (A0 : Option Addr) (c0 : Nat) (l0 : List Int) (p m : Nat) (w : World) (hr0 : Kd.C (Kd.int .u8) w A0 l0.length l0) (hc0 : l0.length ≤ c0) (h1 : p + 8 + m ≤ l0.length) (hn : (m : Int) = dec8 ((l0.drop p).take 8)) :
    Calls Try.prog 49 #[.slice A0 l0.length c0, .int .i64 p] w fun e w' => e = .returned (.tuple #[.string (strOfNums ((l0.drop (p + 8)).take m)), .int .i64 ((p + 8 + m : Nat) : Int), .bool true]) ∧ Below w.heap.size w w' := by
  have hm0 := Kd.C_max hr0
  have hc1 : (l0.length : Int) ≤ c0 := by omega
  have HR0 := Aside0.mk hr0
  have HN := Aside0.mk hn
  clear hr0 hn
  go_enter Try.func49, Try.ntmps49
  go_wp2_with fail
  refine (readNum_ok A0 c0 l0 p w HR0.out hc0 (by omega) (by omega)).mono ?_
  rintro e w1 ⟨rfl, hb⟩
  have HB := Aside0.mk hb
  clear hb
  rw [Int.toNat_natCast, ← HN.out]
  obtain ⟨q, hq⟩ : ∃ q, q = p + 8 := ⟨_, rfl⟩
  have hcut := Kd.C_mid (lo := q) (hi := q + m) (Kd.C_below HR0.out HB.out) (by omega) (by omega) hc0
  have e1 : (l0.take (q + m)).drop q = (l0.drop q).take m := by rw [List.drop_take, Nat.add_sub_cancel_left]
  have e2 : ((l0.drop q).take m).length = m := by rw [List.length_take, List.length_drop, Nat.min_eq_left (by omega)]
  rw [e1] at hcut
  have hpq : (p : Int) + 8 = (q : Int) := by omega
  rw [hpq]
  have HQ := Aside0.mk hq
  have hqm : q + m ≤ l0.length := by omega
  have E2 := Aside0.mk e2
  clear e1 e2 hpq hq h1
  by_cases hcq : c0 = q
  · subst hcq
    rw [if_pos rfl] at hcut
    have HCUT := Aside0.mk hcut
    clear hcut
    have hm2 : m = 0 := by omega
    subst hm2
    go_wp2_with fail
    refine upon_runs (string_runs Try.prog 52 5 9 Try.underlying52 Try.underlying5 Try.underlying9 HCUT.out (by rw [E2.out])) ?_
    rintro _ w2 ⟨rfl, rfl⟩
    go_wp2_with fail
    go_ret3
    obtain rfl := HQ.out
    exact ⟨by simp, HB.out⟩
  · rw [if_neg hcq, show q * (Kd.int .u8).sz = q from Nat.mul_one q] at hcut
    have HCUT := Aside0.mk hcut
    clear hcut
    go_wp2_with fail
    refine upon_runs (string_runs Try.prog 52 5 9 Try.underlying52 Try.underlying5 Try.underlying9 (HCUT.out) (by rw [E2.out])) ?_
    rintro _ w2 ⟨rfl, rfl⟩
    go_wp2_with fail
    go_ret3
    obtain rfl := HQ.out
    exact ⟨by simp, HB.out⟩
set_option maxHeartbeats 800000 in
theorem refReadText_no (A0 : Option Addr) (c0 : Nat) (l0 : List Int) (at_ : Int) (w : World) (hr0 : Kd.C (Kd.int .u8) w A0 l0.length l0) (hc0 : l0.length ≤ c0) (h1 : at_ < 0 ∨ (l0.length : Int) < at_ + 8) (h2 : at_ ≤ 9223372036854775807) :
    Calls Try.prog 83 #[.slice A0 l0.length c0, .int .i64 at_] w fun e w' => e = .returned (.tuple #[.string ⟨#[]⟩, .int .i64 0, .bool false]) ∧ Below w.heap.size w w' := by
  have HR0 := Aside0.mk hr0
  have H1 := Aside0.mk h1
  clear hr0 h1
  go_enter Try.func83, Try.ntmps83
  go_wp2_with fail
  refine (refReadNum_no A0 c0 l0 at_ w HR0.out hc0 H1.out h2).mono ?_
  rintro e w1 ⟨rfl, hb⟩
  have HB := Aside0.mk hb
  clear hb
  go_wp2_with fail
  go_ret3
  exact ⟨rfl, HB.out⟩
set_option maxHeartbeats 800000 in
theorem refReadText_bad (A0 : Option Addr) (c0 : Nat) (l0 : List Int) (p : Nat) (w : World) (hr0 : Kd.C (Kd.int .u8) w A0 l0.length l0) (hc0 : l0.length ≤ c0) (h1 : p + 8 ≤ l0.length) (n : Int) (hn : n = dec8 ((l0.drop p).take 8)) (h2 : n < 0 ∨ (l0.length : Int) - (p + 8) < n) :
    Calls Try.prog 83 #[.slice A0 l0.length c0, .int .i64 p] w fun e w' => e = .returned (.tuple #[.string ⟨#[]⟩, .int .i64 0, .bool false]) ∧ Below w.heap.size w w' := by
  have hm0 := Kd.C_max hr0
  have HR0 := Aside0.mk hr0
  have HN := Aside0.mk hn
  clear hr0 hn
  rcases h2 with h2 | h2
  · go_enter Try.func83, Try.ntmps83
    go_wp2_with fail
    refine (refReadNum_ok A0 c0 l0 p w HR0.out hc0 (by omega) (by omega)).mono ?_
    rintro e w1 ⟨rfl, hb⟩
    have HB := Aside0.mk hb
    clear hb
    rw [Int.toNat_natCast, ← HN.out]
    go_wp2_with fail
    go_ret3
    exact ⟨rfl, HB.out⟩
  · by_cases h3 : n < 0
    · clear h2
      go_enter Try.func83, Try.ntmps83
      go_wp2_with fail
      refine (refReadNum_ok A0 c0 l0 p w HR0.out hc0 (by omega) (by omega)).mono ?_
      rintro e w1 ⟨rfl, hb⟩
      have HB := Aside0.mk hb
      clear hb
      rw [Int.toNat_natCast, ← HN.out]
      go_wp2_with fail
      go_ret3
      exact ⟨rfl, HB.out⟩
    · go_enter Try.func83, Try.ntmps83
      go_wp2_with fail
      refine (refReadNum_ok A0 c0 l0 p w HR0.out hc0 (by omega) (by omega)).mono ?_
      rintro e w1 ⟨rfl, hb⟩
      have HB := Aside0.mk hb
      clear hb
      rw [Int.toNat_natCast, ← HN.out]
      go_wp2_with fail
      go_ret3
      exact ⟨rfl, HB.out⟩
set_option maxHeartbeats 800000 in
theorem refReadText_ok (A0 : Option Addr) (c0 : Nat) (l0 : List Int) (p m : Nat) (w : World) (hr0 : Kd.C (Kd.int .u8) w A0 l0.length l0) (hc0 : l0.length ≤ c0) (h1 : p + 8 + m ≤ l0.length) (hn : (m : Int) = dec8 ((l0.drop p).take 8)) :
    Calls Try.prog 83 #[.slice A0 l0.length c0, .int .i64 p] w fun e w' => e = .returned (.tuple #[.string (strOfNums ((l0.drop (p + 8)).take m)), .int .i64 ((p + 8 + m : Nat) : Int), .bool true]) ∧ Below w.heap.size w w' := by
  have hm0 := Kd.C_max hr0
  have hc1 : (l0.length : Int) ≤ c0 := by omega
  have HR0 := Aside0.mk hr0
  have HN := Aside0.mk hn
  clear hr0 hn
  go_enter Try.func83, Try.ntmps83
  go_wp2_with fail
  refine (refReadNum_ok A0 c0 l0 p w HR0.out hc0 (by omega) (by omega)).mono ?_
  rintro e w1 ⟨rfl, hb⟩
  have HB := Aside0.mk hb
  clear hb
  rw [Int.toNat_natCast, ← HN.out]
  obtain ⟨q, hq⟩ : ∃ q, q = p + 8 := ⟨_, rfl⟩
  have hcut := Kd.C_mid (lo := q) (hi := q + m) (Kd.C_below HR0.out HB.out) (by omega) (by omega) hc0
  have e1 : (l0.take (q + m)).drop q = (l0.drop q).take m := by rw [List.drop_take, Nat.add_sub_cancel_left]
  have e2 : ((l0.drop q).take m).length = m := by rw [List.length_take, List.length_drop, Nat.min_eq_left (by omega)]
  rw [e1] at hcut
  have hpq : (p : Int) + 8 = (q : Int) := by omega
  rw [hpq]
  have HQ := Aside0.mk hq
  have hqm : q + m ≤ l0.length := by omega
  have E2 := Aside0.mk e2
  clear e1 e2 hpq hq h1
  by_cases hcq : c0 = q
  · subst hcq
    rw [if_pos rfl] at hcut
    have HCUT := Aside0.mk hcut
    clear hcut
    have hm2 : m = 0 := by omega
    subst hm2
    go_wp2_with fail
    refine upon_runs (string_runs Try.prog 52 5 9 Try.underlying52 Try.underlying5 Try.underlying9 HCUT.out (by rw [E2.out])) ?_
    rintro _ w2 ⟨rfl, rfl⟩
    go_wp2_with fail
    go_ret3
    obtain rfl := HQ.out
    exact ⟨by simp, HB.out⟩
  · rw [if_neg hcq, show q * (Kd.int .u8).sz = q from Nat.mul_one q] at hcut
    have HCUT := Aside0.mk hcut
    clear hcut
    go_wp2_with fail
    refine upon_runs (string_runs Try.prog 52 5 9 Try.underlying52 Try.underlying5 Try.underlying9 (HCUT.out) (by rw [E2.out])) ?_
    rintro _ w2 ⟨rfl, rfl⟩
    go_wp2_with fail
    go_ret3
    obtain rfl := HQ.out
    exact ⟨by simp, HB.out⟩

/-- What a number read at a place is; what a text is. -/
def rdNum (l : List Int) (at_ : Int) : Int × Int × Bool := if 0 ≤ at_ ∧ at_ + 8 ≤ l.length then (dec8 ((l.drop at_.toNat).take 8), at_ + 8, true) else (0, 0, false)
def rdText (l : List Int) (at_ : Int) : ByteArray × Int × Bool :=
  if 0 ≤ at_ ∧ at_ + 8 ≤ l.length then
    if 0 ≤ dec8 ((l.drop at_.toNat).take 8) ∧ at_ + 8 + dec8 ((l.drop at_.toNat).take 8) ≤ l.length then (strOfNums ((l.drop (at_.toNat + 8)).take (dec8 ((l.drop at_.toNat).take 8)).toNat), at_ + 8 + dec8 ((l.drop at_.toNat).take 8), true) else (⟨#[]⟩, 0, false)
  else (⟨#[]⟩, 0, false)

theorem readNum_any (A0 : Option Addr) (c0 : Nat) (l0 : List Int) (at_ : Int) (w : World) (hr0 : Kd.C (Kd.int .u8) w A0 l0.length l0) (hc0 : l0.length ≤ c0) (h2 : at_ ≤ 9223372036854775807) (q : Int × Int × Bool) (hq : q = rdNum l0 at_) :
    Calls Try.prog 78 #[.slice A0 l0.length c0, .int .i64 at_] w fun e w' => e = .returned (.tuple #[.int .i64 q.1, .int .i64 q.2.1, .bool q.2.2]) ∧ Below w.heap.size w w' := by
  subst hq
  unfold rdNum
  by_cases h : 0 ≤ at_ ∧ at_ + 8 ≤ l0.length
  · rw [if_pos h]
    exact readNum_ok A0 c0 l0 at_ w hr0 hc0 h.1 h.2
  · rw [if_neg h]
    exact readNum_no A0 c0 l0 at_ w hr0 hc0 (by omega) h2
theorem readText_any (A0 : Option Addr) (c0 : Nat) (l0 : List Int) (at_ : Int) (w : World) (hr0 : Kd.C (Kd.int .u8) w A0 l0.length l0) (hc0 : l0.length ≤ c0) (h2 : at_ ≤ 9223372036854775807) (q : ByteArray × Int × Bool) (hq : q = rdText l0 at_) :
    Calls Try.prog 49 #[.slice A0 l0.length c0, .int .i64 at_] w fun e w' => e = .returned (.tuple #[.string q.1, .int .i64 q.2.1, .bool q.2.2]) ∧ Below w.heap.size w w' := by
  subst hq
  unfold rdText
  by_cases h : 0 ≤ at_ ∧ at_ + 8 ≤ l0.length
  · rw [if_pos h]
    obtain ⟨p, rfl⟩ := Int.eq_ofNat_of_zero_le h.1
    rw [Int.toNat_natCast]
    by_cases h3 : 0 ≤ dec8 ((l0.drop p).take 8) ∧ (p : Int) + 8 + dec8 ((l0.drop p).take 8) ≤ l0.length
    · rw [if_pos h3]
      obtain ⟨m, hm⟩ := Int.eq_ofNat_of_zero_le h3.1
      have := readText_ok A0 c0 l0 p m w hr0 hc0 (by omega) hm.symm
      rw [hm, Int.toNat_natCast]
      simpa using this
    · rw [if_neg h3]
      exact readText_bad A0 c0 l0 p w hr0 hc0 (by omega) _ rfl (by omega)
  · rw [if_neg h]
    exact readText_no A0 c0 l0 at_ w hr0 hc0 (by omega) h2

theorem refReadNum_any (A0 : Option Addr) (c0 : Nat) (l0 : List Int) (at_ : Int) (w : World) (hr0 : Kd.C (Kd.int .u8) w A0 l0.length l0) (hc0 : l0.length ≤ c0) (h2 : at_ ≤ 9223372036854775807) (q : Int × Int × Bool) (hq : q = rdNum l0 at_) :
    Calls Try.prog 82 #[.slice A0 l0.length c0, .int .i64 at_] w fun e w' => e = .returned (.tuple #[.int .i64 q.1, .int .i64 q.2.1, .bool q.2.2]) ∧ Below w.heap.size w w' := by
  subst hq
  unfold rdNum
  by_cases h : 0 ≤ at_ ∧ at_ + 8 ≤ l0.length
  · rw [if_pos h]
    exact refReadNum_ok A0 c0 l0 at_ w hr0 hc0 h.1 h.2
  · rw [if_neg h]
    exact refReadNum_no A0 c0 l0 at_ w hr0 hc0 (by omega) h2
theorem refReadText_any (A0 : Option Addr) (c0 : Nat) (l0 : List Int) (at_ : Int) (w : World) (hr0 : Kd.C (Kd.int .u8) w A0 l0.length l0) (hc0 : l0.length ≤ c0) (h2 : at_ ≤ 9223372036854775807) (q : ByteArray × Int × Bool) (hq : q = rdText l0 at_) :
    Calls Try.prog 83 #[.slice A0 l0.length c0, .int .i64 at_] w fun e w' => e = .returned (.tuple #[.string q.1, .int .i64 q.2.1, .bool q.2.2]) ∧ Below w.heap.size w w' := by
  subst hq
  unfold rdText
  by_cases h : 0 ≤ at_ ∧ at_ + 8 ≤ l0.length
  · rw [if_pos h]
    obtain ⟨p, rfl⟩ := Int.eq_ofNat_of_zero_le h.1
    rw [Int.toNat_natCast]
    by_cases h3 : 0 ≤ dec8 ((l0.drop p).take 8) ∧ (p : Int) + 8 + dec8 ((l0.drop p).take 8) ≤ l0.length
    · rw [if_pos h3]
      obtain ⟨m, hm⟩ := Int.eq_ofNat_of_zero_le h3.1
      have := refReadText_ok A0 c0 l0 p m w hr0 hc0 (by omega) hm.symm
      rw [hm, Int.toNat_natCast]
      simpa using this
    · rw [if_neg h3]
      exact refReadText_bad A0 c0 l0 p w hr0 hc0 (by omega) _ rfl (by omega)
  · rw [if_neg h]
    exact refReadText_no A0 c0 l0 at_ w hr0 hc0 (by omega) h2
end Go.Proofs.Ytkgbcoijkmlmnaa.K
