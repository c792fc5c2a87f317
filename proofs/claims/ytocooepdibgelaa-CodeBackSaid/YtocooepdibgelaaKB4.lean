/- What was laid is read again: the statement CodeBack. -/
import Derived.Test.YtocooepdibgelaaKB3
import Derived.Test.YtocooepdibgelaaKG
set_option linter.unusedVariables false
set_option linter.unusedSimpArgs false
namespace Go.Proofs.Ytocooepdibgelaa.K
open Go.RowKit Go.Proofs.YtocooepdibgelaaW.PrintWords Go.Proofs.YtocooepdibgelaaW.PrintLast Go.Proofs.YtocooepdibgelaaW.PrintMore Go.Proofs.Ytocooepdibgelaa.U Go.Proofs.Ytocooepdibgelaa.T

/-- Numbers' bytes; texts' bytes. -/
def encN (ns : List Int) : List Int := ns.flatMap (fun n => bytes8 n 8)
def enc1 (s : ByteArray) : List Int := bytes8 s.size 8 ++ bytesOf s
def encT (ts : List ByteArray) : List Int := ts.flatMap enc1
theorem encN_length (ns : List Int) : (encN ns).length = 8 * ns.length := by
  induction ns with
  | nil => rfl
  | cons n ns ih => rw [encN, List.flatMap_cons, List.length_append, bytes8_length]; rw [encN] at ih; rw [ih, List.length_cons]; omega
theorem enc1_length (s : ByteArray) : (enc1 s).length = 8 + s.size := by rw [enc1, List.length_append, bytes8_length, bytesOf_length]
theorem encN_snoc (ns : List Int) (k : Nat) (h : k < ns.length) : encN (ns.take (k + 1)) = encN (ns.take k) ++ bytes8 ns[k] 8 := by
  rw [List.take_succ_eq_append_getElem h, encN, List.flatMap_append]
  simp [encN]
theorem encT_snoc (ts : List ByteArray) (k : Nat) (h : k < ts.length) : encT (ts.take (k + 1)) = encT (ts.take k) ++ enc1 ts[k] := by
  rw [List.take_succ_eq_append_getElem h, encT, List.flatMap_append]
  simp [encT]
theorem encN_split (ns : List Int) (k : Nat) (h : k < ns.length) : ∃ Q, encN ns = encN (ns.take k) ++ bytes8 ns[k] 8 ++ Q := by
  refine ⟨encN (ns.drop (k + 1)), ?_⟩
  rw [← encN_snoc ns k h, encN, encN, encN, ← List.flatMap_append, List.take_append_drop]
theorem encT_split (ts : List ByteArray) (k : Nat) (h : k < ts.length) : ∃ Q, encT ts = encT (ts.take k) ++ enc1 ts[k] ++ Q := by
  refine ⟨encT (ts.drop (k + 1)), ?_⟩
  rw [← encT_snoc ts k h, encT, encT, encT, ← List.flatMap_append, List.take_append_drop]
theorem encT_small (ts : List ByteArray) (h : ∀ s ∈ ts, s.size ≤ 100) : (encT ts).length ≤ 108 * ts.length := by
  induction ts with
  | nil => simp [encT]
  | cons s ts ih =>
    have h1 := ih (fun x hx => h x (List.mem_cons_of_mem _ hx))
    have h2 := h s (List.mem_cons_self ..)
    rw [encT] at h1
    rw [encT, List.flatMap_cons, List.length_append, enc1_length, List.length_cons]
    omega
theorem num_at (P Q : List Int) (n : Int) (h0 : -9223372036854775808 ≤ n) (h1 : n ≤ 9223372036854775807) : rdNum (P ++ bytes8 n 8 ++ Q) (P.length : Int) = (n, (P.length : Int) + 8, true) := by
  unfold rdNum
  rw [if_pos (by simp [bytes8_length]; omega), Int.toNat_natCast, List.append_assoc, List.drop_left' rfl, List.take_left' (bytes8_length _ _), dec8_bytes8 n h0 h1]
theorem str_bytesOf (s : ByteArray) : strOfNums (bytesOf s) = s := by
  apply ByteArray.ext
  apply Array.toList_inj.1
  simp [strOfNums, bytesOf, Function.comp_def]
theorem text_at (P Q : List Int) (s : ByteArray) (hs : s.size ≤ 9223372036854775807) : rdText (P ++ enc1 s ++ Q) (P.length : Int) = (s, (P.length : Int) + 8 + s.size, true) := by
  have hd : dec8 (((P ++ enc1 s ++ Q).drop P.length).take 8) = s.size := by
    rw [enc1, List.append_assoc, List.drop_left' rfl, List.append_assoc, List.take_left' (bytes8_length _ _), dec8_bytes8 _ (by omega) (by omega)]
  unfold rdText
  rw [if_pos (by simp [enc1_length]; omega), Int.toNat_natCast, hd, if_pos (by simp [enc1_length]; omega), Int.toNat_natCast]
  have e : ((P ++ enc1 s ++ Q).drop (P.length + 8)).take s.size = bytesOf s := by
    rw [enc1, ← List.drop_drop, List.append_assoc, List.drop_left' rfl, List.append_assoc, List.drop_left' (bytes8_length _ _), List.take_left' (bytesOf_length s)]
  rw [e, str_bytesOf]

set_option maxRecDepth 100000 in
set_option maxHeartbeats 4000000 in
theorem codeBack_small (W : World) (A0 : Option Addr) (c0 : Nat) (l0 : List Int) (hr0 : Kd.C (Kd.int .u8) W A0 l0.length l0) (hc0 : l0.length ≤ c0) (A1 : Option Addr) (c1 : Nat) (ns : List Int) (hr1 : Kd.C (Kd.int .i64) W A1 ns.length ns) (hg1 : ∀ x ∈ ns, (Lit.int .i64 x).wf = true)
    (A2 : Option Addr) (c2 : Nat) (ts : List ByteArray) (hr2 : Kd.C Kd.string W A2 ts.length ts) (hg2 : ∀ s ∈ ts, s.size ≤ 9223372036854775807) (h0 : l0.length ≤ 100) (h1 : ns.length ≤ 20) :
    Calls Try.prog 8 #[.slice A0 l0.length c0, .slice A1 ns.length c1, .slice A2 ts.length c2] W fun e w' => e = .returned (.bool true) ∧ Below W.heap.size W w' := by
  have HR0 := Aside0.mk hr0
  have HR1 := Aside0.mk hr1
  have HR2 := Aside0.mk hr2
  have HG1 := Aside0.mk hg1
  have HG2 := Aside0.mk hg2
  clear hr0 hr1 hr2 hg1 hg2
  go_enter Try.func8, Try.ntmps8
  go_wp2_with fail
  refine (greatTexts A2 c2 ts 20 W HR2.out HG2.out).mono ?_
  rintro e w1 ⟨⟨r, rfl, hRr⟩, hb1⟩
  have HRr := Aside0.mk hRr
  clear hRr
  have HB1 := Aside0.mk hb1
  clear hb1
  cases r with
  | true =>
    go_wp2_with fail
    refine (awake1 _).mono ?_
    rintro e w6 ⟨rfl, hb6⟩
    have HB6 := Aside0.mk (two_and _ _ _ HB1.out hb6)
    clear hb6
    go_wp2_with fail
    go_ret
    exact ⟨rfl, HB6.out⟩
  | false =>
    have HT := Aside0.mk (HRr.out rfl)
    clear HRr
    have ht20 : ts.length ≤ 20 := by have := HT.out.1; omega
    have H01 := Aside0.mk (Kd.C_below HR0.out HB1.out)
    go_wp2_with (at_builtin; refine wpList_append_runs rfl _ _ _ _ rfl _ _ rfl rfl (append_own_runs Try.prog (flat_int .u8) 38 _ _ 1 Try.underlying38 info_u8 rfl (by decide) (Own.nil (Kd.int .u8) 5 w1 w1.heap.size) A0 l0.length c0 rfl H01.out (Nat.le_refl _) (by simp; omega) (by simp; omega)) ?_; rintro v2 w2 ⟨hv2, hg2⟩; have HV2 := Aside0.mk hv2; have HG2' := Aside0.mk hg2; clear hv2 hg2)
    have HB2 := Aside0.mk (HB1.out.grown HG2'.out HB1.out.size (fun k hk => by simp [Value.ownBlock] at hk))
    have HV3 := Aside0.mk (HV2.out.lower HB1.out.size)
    clear HG2' HV2
    go_loopg [7, 8] ns.length (fun kq v7 v8 w' => ∃ (k : Nat) (X : List Int), k + kq = ns.length ∧ v8 = .int .i64 k ∧ Aside0 (X = l0 ++ encN (ns.take k)) ∧ Aside0 (Own (Kd.int .u8) 5 w' W.heap.size v7 X) ∧ Aside0 (Below W.heap.size W w'))
    case atStart => exact ⟨0, _, by omega, rfl, ⟨by simp [encN]⟩, HV3, HB2⟩
    case round =>
      clear HB2 HV3 HB1 H01
      obtain ⟨k, X, hk, rfl, HX, HV, HB⟩ := hrel
      obtain ⟨Ax, cx, rfl, hcx, hrx⟩ := HV.out.reads
      have HRX := Aside0.mk hrx
      clear hrx
      have hXl : X.length = l0.length + 8 * k := by rw [HX.out, List.length_append, encN_length, List.length_take]; omega
      have HXl := Aside0.mk hXl
      clear hXl
      by_cases hlt : k < ns.length
      · obtain ⟨ad, rfl, hcell⟩ := Kd.at_int HR1.out (k : Int) (by omega) (by omega)
        rw [rd_at _ _ hlt, Int.toNat_natCast] at hcell
        have hcell2 := (HB.out.cell (World.block_lt_of_cell? W _ hcell)).trans hcell
        obtain ⟨n, hn⟩ : ∃ n, n = ns[k] := ⟨_, rfl⟩
        rw [← hn] at hcell2
        have HN := Aside0.mk hn
        clear hn hcell
        go_wp2_with fail
        refine (num Ax cx X n wr HRX.out (by rw [HXl.out]; omega)).mono ?_
        rintro e w4 ⟨v4, Y, rfl, hv4, HY, hb4⟩
        have HV4 := Aside0.mk (hv4.lower HB.out.size)
        have HB4 := Aside0.mk (two_and _ _ _ HB.out hb4)
        clear hv4 hb4 hcell2
        go_wp2_with fail
        go_roundg (ns.length - (k + 1))
        case measure => omega
        case rel => exact ⟨k + 1, Y, by omega, by go_num, ⟨by rw [HY.out, HX.out, encN_snoc ns k hlt, HN.out, List.append_assoc]⟩, HV4, HB4⟩
      · obtain rfl : k = ns.length := by omega
        have HX1 : Aside0 (X = l0 ++ encN ns) := ⟨by rw [HX.out, List.take_length]⟩
        clear HX
        go_wp2_with fail
        go_loopg [7, 9] ts.length (fun kq v7 v9 w' => ∃ (k : Nat) (X : List Int), k + kq = ts.length ∧ v9 = .int .i64 k ∧ Aside0 (X = l0 ++ encN ns ++ encT (ts.take k)) ∧ Aside0 (Own (Kd.int .u8) 5 w' W.heap.size v7 X) ∧ Aside0 (Below W.heap.size W w'))
        case atStart => exact ⟨0, X, by omega, rfl, ⟨by rw [HX1.out]; simp [encT]⟩, HV, HB⟩
        case round =>
          clear HB HV HXl HRX hcx
          obtain ⟨k, X, hk, rfl, HX, HV, HB⟩ := hrel
          obtain ⟨Ax, cx, rfl, hcx, hrx⟩ := HV.out.reads
          have HRX := Aside0.mk hrx
          clear hrx
          have hXl : X.length ≤ 100 + 160 + 2160 := by
            have h1 := encT_small (ts.take k) (fun s hs => HT.out.2 s (List.mem_of_mem_take hs))
            rw [HX.out, List.length_append, List.length_append, encN_length]
            rw [List.length_take] at h1
            omega
          by_cases hlt : k < ts.length
          · obtain ⟨ad, rfl, hcell⟩ := at_string HR2.out k hlt
            have hcell2 := (HB.out.cell (World.block_lt_of_cell? W _ hcell)).trans hcell
            obtain ⟨s, hs⟩ : ∃ s, s = ts[k] := ⟨_, rfl⟩
            rw [← hs] at hcell2
            have hsz : s.size ≤ 100 := by rw [hs]; exact HT.out.2 _ (List.getElem_mem _)
            have HS := Aside0.mk hs
            clear hs hcell
            go_wp2_with fail
            refine (text Ax cx X s wr HRX.out (by omega) (by omega)).mono ?_
            rintro e w4 ⟨v4, Y, rfl, hv4, HY, hb4⟩
            have HV4 := Aside0.mk (hv4.lower HB.out.size)
            have HB4 := Aside0.mk (two_and _ _ _ HB.out hb4)
            clear hv4 hb4 hcell2
            go_wp2_with fail
            go_roundg (ts.length - (k + 1))
            case measure => omega
            case rel => exact ⟨k + 1, Y, by omega, by go_num, ⟨by rw [HY.out, HX.out, encT_snoc ts k hlt, HS.out]; simp [enc1]⟩, HV4, HB4⟩
          · obtain rfl : k = ts.length := by omega
            have HX2 : Aside0 (X = l0 ++ encN ns ++ encT ts) := ⟨by rw [HX.out, List.take_length]⟩
            clear HX HX1
            go_wp2_with fail
            go_loopg [10, 11] ns.length (fun kq v10 v11 w' => ∃ (k : Nat), k + kq = ns.length ∧ v11 = .int .i64 k ∧ v10 = .int .i64 ((l0.length : Int) + 8 * (k : Int)) ∧ Aside0 (Kd.C (Kd.int .u8) w' Ax X.length X) ∧ Aside0 (Below W.heap.size W w'))
            case atStart => exact ⟨0, by omega, rfl, by go_num, HRX, HB⟩
            case round =>
              clear HRX HB HV
              obtain ⟨k, hk, rfl, rfl, HRX, HB⟩ := hrel
              by_cases hlt : k < ns.length
              · obtain ⟨ad, rfl, hcell⟩ := Kd.at_int HR1.out (k : Int) (by omega) (by omega)
                rw [rd_at _ _ hlt, Int.toNat_natCast] at hcell
                have hcell2 := (HB.out.cell (World.block_lt_of_cell? W _ hcell)).trans hcell
                obtain ⟨n, hn⟩ : ∃ n, n = ns[k] := ⟨_, rfl⟩
                rw [← hn] at hcell2
                have hq : rdNum X ((l0.length : Int) + 8 * (k : Int)) = (n, (l0.length : Int) + 8 * (k : Int) + 8, true) := by
                  obtain ⟨Q, hQ⟩ := encN_split ns k hlt
                  have hw := wf_i64 (HG1.out _ (List.getElem_mem hlt))
                  have h2 := num_at (l0 ++ encN (ns.take k)) (Q ++ encT ts) n (by rw [hn]; exact hw.1) (by rw [hn]; exact hw.2)
                  have e1 : l0 ++ encN (ns.take k) ++ bytes8 n 8 ++ (Q ++ encT ts) = X := by rw [HX2.out, hQ, hn]; simp [List.append_assoc]
                  have e2 : (((l0 ++ encN (ns.take k)).length : Nat) : Int) = (l0.length : Int) + 8 * (k : Int) := by rw [List.length_append, encN_length, List.length_take]; omega
                  rw [e1, e2] at h2
                  exact h2
                have HQ := Aside0.mk hq.symm
                clear hn hcell hq
                go_wp2_with fail
                refine (readNum_any Ax cx X _ wr HRX.out hcx (by omega) _ HQ.out).mono ?_
                rintro e w4 ⟨rfl, hb4⟩
                have HB4 := Aside0.mk (two_and _ _ _ HB.out hb4)
                have HRX4 := Aside0.mk (Kd.C_below HRX.out hb4)
                have hcell4 := (hb4.cell (World.block_lt_of_cell? wr _ hcell2)).trans hcell2
                clear hb4 hcell2
                go_wp2_with fail
                go_roundg (ns.length - (k + 1))
                case measure => omega
                case rel => exact ⟨k + 1, by omega, by go_num, by go_num, HRX4, HB4⟩
              · obtain rfl : k = ns.length := by omega
                go_wp2_with fail
                go_loopg [10, 15] ts.length (fun kq v10 v15 w' => ∃ (k : Nat) (q : Int), k + kq = ts.length ∧ v15 = .int .i64 k ∧ v10 = .int .i64 q ∧ q = (l0.length : Int) + 8 * (ns.length : Int) + (encT (ts.take k)).length ∧ Aside0 (Kd.C (Kd.int .u8) w' Ax X.length X) ∧ Aside0 (Below W.heap.size W w'))
                case atStart => exact ⟨0, _, by omega, rfl, rfl, by simp [encT], HRX, HB⟩
                case round =>
                  clear HRX HB
                  obtain ⟨k, q, hk, rfl, rfl, hq0, HRX, HB⟩ := hrel
                  have hsm := encT_small (ts.take k) (fun s hs => HT.out.2 s (List.mem_of_mem_take hs))
                  rw [List.length_take] at hsm
                  by_cases hlt : k < ts.length
                  · obtain ⟨ad, rfl, hcell⟩ := at_string HR2.out k hlt
                    have hcell2 := (HB.out.cell (World.block_lt_of_cell? W _ hcell)).trans hcell
                    obtain ⟨s, hs⟩ : ∃ s, s = ts[k] := ⟨_, rfl⟩
                    rw [← hs] at hcell2
                    have hsz : s.size ≤ 100 := by rw [hs]; exact HT.out.2 _ (List.getElem_mem _)
                    have HS := Aside0.mk hs
                    have hq : rdText X q = (s, q + 8 + s.size, true) := by
                      obtain ⟨Q, hQ⟩ := encT_split ts k hlt
                      have h2 := text_at (l0 ++ encN ns ++ encT (ts.take k)) Q s (by omega)
                      have e1 : l0 ++ encN ns ++ encT (ts.take k) ++ enc1 s ++ Q = X := by rw [HX2.out, hQ, hs]; simp [List.append_assoc]
                      have e2 : (((l0 ++ encN ns ++ encT (ts.take k)).length : Nat) : Int) = q := by rw [List.length_append, List.length_append, encN_length]; omega
                      rw [e1, e2] at h2
                      exact h2
                    have HQ := Aside0.mk hq.symm
                    have HQ0 := Aside0.mk hq0
                    have hqr : 0 ≤ q ∧ q ≤ 10000 := by omega
                    obtain ⟨hqr0, hqr1⟩ := hqr
                    clear hs hcell hq hq0 hsm
                    go_wp2_with fail
                    refine (readText_any Ax cx X _ wr HRX.out hcx (by omega) _ HQ.out).mono ?_
                    rintro e w4 ⟨rfl, hb4⟩
                    have HB4 := Aside0.mk (two_and _ _ _ HB.out hb4)
                    have HRX4 := Aside0.mk (Kd.C_below HRX.out hb4)
                    have hcell4 := (hb4.cell (World.block_lt_of_cell? wr _ hcell2)).trans hcell2
                    clear hb4 hcell2
                    go_wp2_with fail
                    go_roundg (ts.length - (k + 1))
                    case measure => omega
                    case rel => exact ⟨k + 1, q + 8 + s.size, by omega, by go_num, rfl, by rw [encT_snoc ts k hlt, List.length_append, enc1_length, HQ0.out, ← HS.out]; omega, HRX4, HB4⟩
                  · obtain rfl : k = ts.length := by omega
                    have hxq : (X.length : Int) = q := by rw [HX2.out, List.length_append, List.length_append, encN_length, hq0, List.take_length]; omega
                    have hq : rdNum X q = (0, 0, false) := by
                      unfold rdNum
                      rw [if_neg (by omega)]
                    have HQ := Aside0.mk hq.symm
                    have hlx : l0.length ≤ X.length := by rw [HX2.out, List.length_append, List.length_append]; omega
                    have htk : X.take l0.length = l0 := by rw [HX2.out, List.append_assoc, List.take_left' rfl]
                    have HTK := Aside0.mk htk
                    clear hq hq0 hsm htk
                    subst hxq
                    go_wp2_with fail
                    refine (readNum_any Ax cx X _ wr HRX.out hcx (by omega) _ HQ.out).mono ?_
                    rintro e w4 ⟨rfl, hb4⟩
                    have HB4 := Aside0.mk (two_and _ _ _ HB.out hb4)
                    have HRX4 := Aside0.mk (Kd.C_take (m := l0.length) (Kd.C_below HRX.out hb4) (by omega))
                    rw [HTK.out] at HRX4
                    clear hb4
                    go_wp2_with fail
                    refine (sameBytes Ax cx l0 A0 c0 l0 w4 HRX4.out (Kd.C_below HR0.out HB4.out) true (by simp)).mono ?_
                    rintro e w5 ⟨rfl, hb5⟩
                    have HB5 := Aside0.mk (two_and _ _ _ HB4.out hb5)
                    clear hb5 HB4 HB
                    go_wp2_with fail
                    refine (awake1 _).mono ?_
                    rintro e w6 ⟨rfl, hb6⟩
                    have HB6 := Aside0.mk (two_and _ _ _ HB5.out hb6)
                    clear hb6
                    go_wp2_with fail
                    go_ret
                    exact ⟨rfl, HB6.out⟩

set_option maxHeartbeats 1600000 in
theorem codeBack_walk (W : World) (A0 : Option Addr) (c0 : Nat) (l0 : List Int) (hr0 : Kd.C (Kd.int .u8) W A0 l0.length l0) (hc0 : l0.length ≤ c0) (hg0 : ∀ x ∈ l0, (Lit.int .u8 x).wf = true) (A1 : Option Addr) (c1 : Nat) (ns : List Int) (hr1 : Kd.C (Kd.int .i64) W A1 ns.length ns) (hc1 : ns.length ≤ c1) (hg1 : ∀ x ∈ ns, (Lit.int .i64 x).wf = true)
    (A2 : Option Addr) (c2 : Nat) (ts : List ByteArray) (hr2 : Kd.C Kd.string W A2 ts.length ts) (hc2 : ts.length ≤ c2) (hg2 : ∀ s ∈ ts, s.size ≤ 9223372036854775807) :
    Calls Try.prog 8 #[.slice A0 l0.length c0, .slice A1 ns.length c1, .slice A2 ts.length c2] W fun e w' => e = .returned (.bool true) ∧ Below W.heap.size W w' := by
  have hm0 := Kd.C_max hr0
  have hm1 := Kd.C_max hr1
  rcases Nat.lt_or_ge 100 l0.length with h1 | h1
  · clear hr0 hg0 hr1 hg1 hr2 hg2
    go_enter Try.func8, Try.ntmps8
    go_wp2_with fail
    refine (awake1 _).mono ?_
    rintro e w6 ⟨rfl, hb6⟩
    go_wp2_with fail
    go_ret
    exact ⟨rfl, hb6⟩
  · rcases Nat.lt_or_ge 20 ns.length with h2 | h2
    · clear hr0 hg0 hr1 hg1 hr2 hg2
      go_enter Try.func8, Try.ntmps8
      go_wp2_with fail
      refine (awake1 _).mono ?_
      rintro e w6 ⟨rfl, hb6⟩
      go_wp2_with fail
      go_ret
      exact ⟨rfl, hb6⟩
    · exact codeBack_small W A0 c0 l0 hr0 hc0 A1 c1 ns hr1 hg1 A2 c2 ts hr2 hg2 h1 h2
end Go.Proofs.Ytocooepdibgelaa.K
