/- A record's body of bytes; records laid: the program's. -/
import Derived.Test.YtkgbcoijkmlmnaaR3
import Derived.Test.YtkgbcoijkmlmnaaKB
import Derived.Test.YtkgbcoijkmlmnaaKQ2
import Derived.Deep.RegionHeldLaw
set_option linter.unusedVariables false
set_option linter.unusedSimpArgs false
namespace Go.Proofs.Ytkgbcoijkmlmnaa.K
open Go.RowKit Go.Proofs.YtkgbcoijkmlmnaaW.PrintWords Go.Proofs.YtkgbcoijkmlmnaaW.PrintLast Go.Proofs.YtkgbcoijkmlmnaaW.PrintMore Go.Proofs.Ytkgbcoijkmlmnaa.U Go.Proofs.Ytkgbcoijkmlmnaa.T

/-! ### the bytes, in plain lists -/
def enc1 (s : ByteArray) : List Int := bytes8 s.size 8 ++ bytesOf s
def encN (l : List Int) : List Int := l.flatMap (fun n => bytes8 n 8)
def encP (l : List PairD) : List Int := l.flatMap (fun x => enc1 x.key ++ enc1 x.val)
def sixR (x : RecD) : List Int := [x.k, x.p, x.s, x.a, x.r, x.set.length]
def bodyR (x : RecD) : List Int := encN (sixR x) ++ encN x.set ++ bytes8 x.prs.length 8 ++ encP x.prs
def recB (x : RecD) : List Int := bytes8 (bodyR x).length 8 ++ bodyR x
theorem enc1_length (s : ByteArray) : (enc1 s).length = 8 + s.size := by rw [enc1, List.length_append, bytes8_length, bytesOf_length]
theorem encN_snoc (l : List Int) (k : Nat) (h : k < l.length) : encN (l.take (k + 1)) = encN (l.take k) ++ bytes8 l[k] 8 := by
  rw [List.take_succ_eq_append_getElem h, encN, List.flatMap_append]
  simp [encN]
theorem encP_snoc (l : List PairD) (k : Nat) (h : k < l.length) : encP (l.take (k + 1)) = encP (l.take k) ++ enc1 l[k].key ++ enc1 l[k].val := by
  rw [List.take_succ_eq_append_getElem h, encP, List.flatMap_append]
  simp [encP]
theorem encN_length (l : List Int) : (encN l).length = 8 * l.length := by
  induction l with
  | nil => rfl
  | cons x xs ih => rw [encN, List.flatMap_cons, List.length_append, bytes8_length]; rw [encN] at ih; rw [ih, List.length_cons]; omega
theorem encP_small (l : List PairD) (m : Nat) (h : ∀ y ∈ l, y.key.size ≤ m ∧ y.val.size ≤ m) : (encP l).length ≤ (2 * m + 16) * l.length := by
  induction l with
  | nil => simp [encP]
  | cons x xs ih =>
    have h1 := h x (List.mem_cons_self ..)
    have h2 := ih (fun y hy => h y (List.mem_cons_of_mem _ hy))
    have h3 := Nat.mul_succ (2 * m + 16) xs.length
    obtain ⟨q, hq⟩ : ∃ q, q = (2 * m + 16) * xs.length := ⟨_, rfl⟩
    rw [← hq] at h2 h3
    rw [List.length_cons, Nat.succ_eq_add_one] at *
    rw [h3]
    have h4 : (encP (x :: xs)).length = (8 + x.key.size) + (8 + x.val.size) + (encP xs).length := by
      rw [encP, List.flatMap_cons, List.length_append, List.length_append, enc1_length, enc1_length]; rfl
    omega
theorem bodyR_small (x : RecD) (h1 : x.set.length ≤ 1000) (h2 : x.prs.length ≤ 1000) (h3 : ∀ y ∈ x.prs, y.key.size ≤ 1000 ∧ y.val.size ≤ 1000) : (bodyR x).length ≤ 3000000 := by
  have h := encP_small x.prs 1000 h3
  have h' : (2 * 1000 + 16) * x.prs.length ≤ 2016 * 1000 := Nat.mul_le_mul (Nat.le_refl _) h2
  rw [bodyR, List.length_append, List.length_append, List.length_append, encN_length, encN_length, bytes8_length]
  simp only [sixR, List.length_cons, List.length_nil]
  omega

/-- What was there is there yet. -/
def HeldB (w w' : World) : Prop := Below w.heap.size w w'
theorem HeldB.then_ {w w1 w2 : World} (h : HeldB w w1) (k : Below w1.heap.size w1 w2) : HeldB w w2 := below_then h h.size k
theorem HeldB.block {w w1 : World} (h : HeldB w w1) (g : Nat) (hg : g < w.heap.size) : w1.heap[g]? = w.heap[g]? := Below.block h g hg
theorem HeldB.size {w w1 : World} (h : HeldB w w1) : w.heap.size ≤ w1.heap.size := Below.size h
set_option maxHeartbeats 3200000 in
set_option maxRecDepth 100000 in
theorem bodyM (x : RecD) (A1 A2 : Option Addr) (c1 c2 : Nat) (w : World) (hx : RecC w x A1 A2 c1 c2) (h1 : x.set.length ≤ 1000) (h2 : x.prs.length ≤ 1000) (h3 : ∀ y ∈ x.prs, y.key.size ≤ 1000 ∧ y.val.size ≤ 1000) :
    Calls Try.prog 63 #[recV x (.slice A1 x.set.length c1) (.slice A2 x.prs.length c2)] w fun e w' => ∃ v X, e = .returned v ∧ Own (Kd.int .u8) 5 w' w.heap.size v X ∧ Aside0 (X = bodyR x) ∧ Below w.heap.size w w' := by
  have HSM := Aside0.mk (fun k => encP_small (x.prs.take k) 1000 (fun y hy => h3 y (List.mem_of_mem_take hy)))
  have H3 := Aside0.mk h3
  have HXs := Aside0.mk hx.s
  have HXp := Aside0.mk hx.p
  have HB0 := Aside0.mk (((Below.refl w.heap.size w).alloc (Nat.le_refl _) (.cells (rawR x (.slice A1 x.set.length c1) (.slice A2 x.prs.length c2)).toArray 64)).alloc ((Below.refl w.heap.size w).alloc (Nat.le_refl _) _).size (.cells ((sixR x).map (Value.int .i64)).toArray 3))
  have hi0 : (((w.alloc (.cells (rawR x (.slice A1 x.set.length c1) (.slice A2 x.prs.length c2)).toArray 64)).alloc (.cells ((sixR x).map (Value.int .i64)).toArray 3))).heap[w.heap.size]? = some (.cells (rawR x (.slice A1 x.set.length c1) (.slice A2 x.prs.length c2)).toArray 64 (0, 0)) := alloc_keeps (alloc_at w _) _
  have hj0 : (((w.alloc (.cells (rawR x (.slice A1 x.set.length c1) (.slice A2 x.prs.length c2)).toArray 64)).alloc (.cells ((sixR x).map (Value.int .i64)).toArray 3))).heap[w.heap.size + 1]? = some (.cells ((sixR x).map (Value.int .i64)).toArray 3 (0, 0)) := by
    have := alloc_at (w.alloc (.cells (rawR x (.slice A1 x.set.length c1) (.slice A2 x.prs.length c2)).toArray 64)) (.cells ((sixR x).map (Value.int .i64)).toArray 3)
    rwa [World.size_alloc] at this
  have HI0 := Aside0.mk hi0
  have HJ0 := Aside0.mk hj0
  clear hx h3 hi0 hj0
  unfold recV
  go_enter Try.func63, Try.ntmps63
  go_wp2_with fail
  go_loopg [3, 25] 6 (fun kq v3 v25 w' => ∃ (k : Nat) (X : List Int), k + kq = 6 ∧ v25 = .int .i64 k ∧ Aside0 (X = encN ((sixR x).take k)) ∧ Aside0 (Own (Kd.int .u8) 5 w' w.heap.size v3 X) ∧ Aside0 (Below w.heap.size w w') ∧ Aside0 (w'.heap[w.heap.size]? = some (.cells (rawR x (.slice A1 x.set.length c1) (.slice A2 x.prs.length c2)).toArray 64 (0, 0))) ∧ Aside0 (w'.heap[w.heap.size + 1]? = some (.cells ((sixR x).map (Value.int .i64)).toArray 3 (0, 0))))
  case atStart => exact ⟨0, _, by omega, rfl, ⟨rfl⟩, ⟨Own.nil _ _ _ _⟩, HB0, HI0, HJ0⟩
  case round =>
    obtain ⟨k, X, hk, rfl, HX, HV, HB, HI, HJ⟩ := hrel
    obtain ⟨Ax, cx, rfl, hcx, hrx⟩ := HV.out.reads
    have HRX := Aside0.mk hrx
    have hXl : X.length = 8 * k := by rw [HX.out, encN_length, List.length_take]; simp only [sixR, List.length_cons, List.length_nil]; omega
    have HXl := Aside0.mk hXl
    clear hrx hXl
    by_cases hlt : k < 6
    · have hl6 : k < (sixR x).length := hlt
      obtain ⟨n, hn⟩ : ∃ n, n = (sixR x)[k] := ⟨_, rfl⟩
      have z : wr.cell? ⟨w.heap.size + 1, k, none⟩ = some (.int .i64 n) := by rw [cell_of_blk HJ.out, hn]; simp [hl6]
      have HN := Aside0.mk hn
      clear hn
      go_wp2_with fail
      refine (num Ax cx X n wr HRX.out (by rw [HXl.out]; omega)).mono ?_
      rintro e w4 ⟨v4, Y, rfl, hv4, HY, hb4⟩
      have HV4 := Aside0.mk (hv4.lower HB.out.size)
      have HB4 := Aside0.mk (two_andj _ _ _ HB.out hb4)
      have HI4 := Aside0.mk ((hb4.block _ (blk_lt' HI.out)).trans HI.out)
      have HJ4 := Aside0.mk ((hb4.block _ (blk_lt' HJ.out)).trans HJ.out)
      clear hv4 hb4 z
      go_wp2_with fail
      go_roundg (6 - (k + 1))
      case measure => omega
      case rel => exact ⟨k + 1, Y, by omega, by go_num, ⟨by rw [HY.out, HX.out, encN_snoc _ k hl6, HN.out]⟩, HV4, HB4, HI4, HJ4⟩
    · obtain rfl : k = 6 := by omega
      have HX1 : Aside0 (X = encN (sixR x)) := ⟨by rw [HX.out]; rfl⟩
      clear HX HJ
      have z5 : wr.cell? ⟨w.heap.size, 5, none⟩ = some (.slice A1 x.set.length c1) := cell_of_blk HI.out
      go_wp2_with fail
      clear z5
      go_loopg [3, 36] x.set.length (fun kq v3 v36 w' => ∃ (k : Nat) (X : List Int), k + kq = x.set.length ∧ v36 = .int .i64 k ∧ Aside0 (X = encN (sixR x) ++ encN (x.set.take k)) ∧ Aside0 (Own (Kd.int .u8) 5 w' w.heap.size v3 X) ∧ Aside0 (Below w.heap.size w w') ∧ Aside0 (w'.heap[w.heap.size]? = some (.cells (rawR x (.slice A1 x.set.length c1) (.slice A2 x.prs.length c2)).toArray 64 (0, 0))))
      case atStart => exact ⟨0, X, by omega, rfl, ⟨by rw [HX1.out]; simp [encN]⟩, HV, HB, HI⟩
      case round =>
        clear HB HV HXl HRX hcx HI
        obtain ⟨k, X, hk, rfl, HX, HV, HB, HI⟩ := hrel
        obtain ⟨Ax, cx, rfl, hcx, hrx⟩ := HV.out.reads
        have HRX := Aside0.mk hrx
        have hXl : X.length = 48 + 8 * k := by rw [HX.out, List.length_append, encN_length, encN_length, List.length_take]; simp only [sixR, List.length_cons, List.length_nil]; omega
        have HXl := Aside0.mk hXl
        clear hrx hXl
        by_cases hlt : k < x.set.length
        · obtain ⟨ad, rfl, hcell⟩ := Kd.at_int (Kd.C_below HXs.out HB.out) (k : Int) (by omega) (by omega)
          rw [rd_at _ _ hlt, Int.toNat_natCast] at hcell
          obtain ⟨n, hn⟩ : ∃ n, n = x.set[k] := ⟨_, rfl⟩
          rw [← hn] at hcell
          have HN := Aside0.mk hn
          clear hn
          go_wp2_with fail
          refine (num Ax cx X n wr HRX.out (by rw [HXl.out]; omega)).mono ?_
          rintro e w4 ⟨v4, Y, rfl, hv4, HY, hb4⟩
          have HV4 := Aside0.mk (hv4.lower HB.out.size)
          have HB4 := Aside0.mk (two_andj _ _ _ HB.out hb4)
          have HI4 := Aside0.mk ((hb4.block _ (blk_lt' HI.out)).trans HI.out)
          clear hv4 hb4 hcell
          go_wp2_with fail
          go_roundg (x.set.length - (k + 1))
          case measure => omega
          case rel => exact ⟨k + 1, Y, by omega, by go_num, ⟨by rw [HY.out, HX.out, encN_snoc _ k hlt, HN.out, List.append_assoc]⟩, HV4, HB4, HI4⟩
        · obtain rfl : k = x.set.length := by omega
          have HX1 : Aside0 (X = encN (sixR x) ++ encN x.set) := ⟨by rw [HX.out, List.take_length]⟩
          clear HX
          have z6 : wr.cell? ⟨w.heap.size, 6, none⟩ = some (.slice A2 x.prs.length c2) := cell_of_blk HI.out
          go_wp2_with fail
          refine (num Ax cx X x.prs.length wr HRX.out (by rw [HXl.out]; omega)).mono ?_
          rintro e w4 ⟨v4, Y, rfl, hv4, HY, hb4⟩
          have HV4 := Aside0.mk (hv4.lower HB.out.size)
          have HB4 := Aside0.mk (two_andj _ _ _ HB.out hb4)
          have hi4 := (hb4.block _ (blk_lt' HI.out)).trans HI.out
          have HI4 := Aside0.mk hi4
          have HY1 : Aside0 (Y = encN (sixR x) ++ encN x.set ++ bytes8 x.prs.length 8) := ⟨by rw [HY.out, HX1.out]⟩
          clear hv4 hb4 z6
          have z6 : w4.cell? ⟨w.heap.size, 6, none⟩ = some (.slice A2 x.prs.length c2) := cell_of_blk hi4
          clear hi4
          go_wp2_with fail
          clear z6
          go_loopg [3, 52] x.prs.length (fun kq v3 v52 w' => ∃ (k : Nat) (X : List Int), k + kq = x.prs.length ∧ v52 = .int .i64 k ∧ Aside0 (X = encN (sixR x) ++ encN x.set ++ bytes8 x.prs.length 8 ++ encP (x.prs.take k)) ∧ Aside0 (Own (Kd.int .u8) 5 w' w.heap.size v3 X) ∧ Aside0 (Below w.heap.size w w'))
          case atStart => exact ⟨0, Y, by omega, rfl, ⟨by rw [HY1.out]; simp [encP]⟩, HV4, HB4⟩
          case round =>
            clear HB HV HXl HRX hcx HI HV4 HB4 HI4
            obtain ⟨k, X, hk, rfl, HX, HV, HB⟩ := hrel
            obtain ⟨Ax, cx, rfl, hcx, hrx⟩ := HV.out.reads
            have HRX := Aside0.mk hrx
            have hXl : X.length ≤ 3000000 := by
              have h4 := HSM.out k
              have h5 : (2 * 1000 + 16) * (x.prs.take k).length ≤ 2016 * 1000 := Nat.mul_le_mul (Nat.le_refl _) (by rw [List.length_take]; omega)
              rw [HX.out, List.length_append, List.length_append, List.length_append, encN_length, encN_length, bytes8_length]
              simp only [sixR, List.length_cons, List.length_nil]
              omega
            have HXl := Aside0.mk hXl
            clear hrx hXl
            by_cases hlt : k < x.prs.length
            · obtain ⟨ad, rfl, hx0, hx1⟩ := at_pair2 (Kd.C_below HXp.out HB.out) k hlt
              obtain ⟨y, hy⟩ : ∃ y, y = x.prs[k] := ⟨_, rfl⟩
              rw [← hy] at hx0 hx1
              have HY2 := Aside0.mk hy
              have HYs := Aside0.mk (show y.key.size ≤ 1000 ∧ y.val.size ≤ 1000 by rw [hy]; exact H3.out _ (List.getElem_mem _))
              obtain ⟨a, b⟩ := y
              clear hy
              obtain ⟨gP, hgP⟩ : ∃ g, g = wr.heap.size := ⟨_, rfl⟩
              obtain ⟨wP, hwP⟩ : ∃ wP, wP = wr.alloc (.cells #[.string a, .string b] 114) := ⟨_, rfl⟩
              have hkP : wP.heap[gP]? = some (.cells ([.string a, .string b] : List Value).toArray 114 (0, 0)) := by rw [hwP, hgP]; exact alloc_at wr _
              have hbP : Below wr.heap.size wr wP := by rw [hwP]; exact (Below.refl _ _).alloc (Nat.le_refl _) _
              have HKP := Aside0.mk hkP
              have HBP := Aside0.mk hbP
              have HWP := Aside0.mk (And.intro hwP hgP)
              have HT1 : Aside0 (∀ w', HeldB wP w' → Calls Try.prog 62 #[.slice Ax X.length cx, .string a] w' fun e w'' => ∃ A c Y, e = .returned (.slice A (List.length Y) c) ∧ Aside0 (Kd.C (Kd.int .u8) w'' A Y.length Y) ∧ Aside0 (Y = X ++ enc1 a) ∧ HeldB wP w'') := ⟨fun w' hw => by
                refine (text Ax cx X a w' (Kd.C_below HRX.out (two_andj _ _ _ HBP.out hw)) (by have := HXl.out; omega) (by have : a.size ≤ 1000 := HYs.out.1; omega)).mono ?_
                rintro e w'' ⟨v, Y, rfl, hO, HY, hb⟩
                obtain ⟨A, c, rfl, _, hR⟩ := hO.reads
                exact ⟨A, c, Y, rfl, ⟨hR⟩, ⟨by rw [HY.out, enc1, List.append_assoc]⟩, hw.then_ hb⟩⟩
              have HT2 : Aside0 (∀ A c (Y : List Int) w', Aside0 (Kd.C (Kd.int .u8) w' A Y.length Y) → Aside0 (Y = X ++ enc1 a) → HeldB wP w' → Calls Try.prog 62 #[.slice A Y.length c, .string b] w' fun e w'' => ∃ v Z, e = .returned v ∧ Aside0 (Own (Kd.int .u8) 5 w'' w.heap.size v Z) ∧ Aside0 (Z = X ++ enc1 a ++ enc1 b) ∧ HeldB wP w'') := ⟨fun A c Y w' hR hY hw => by
                refine (text A c Y b w' hR.out (by rw [hY.out, List.length_append, enc1_length]; have := HXl.out; have : a.size ≤ 1000 := HYs.out.1; omega) (by have : b.size ≤ 1000 := HYs.out.2; omega)).mono ?_
                rintro e w'' ⟨v, Z, rfl, hO, HZ, hb⟩
                exact ⟨v, Z, rfl, ⟨hO.lower (Nat.le_trans HB.out.size (Nat.le_trans HBP.out.size hw.size))⟩, ⟨by rw [HZ.out, hY.out, enc1, enc1, List.append_assoc]⟩, hw.then_ hb⟩⟩
              have hk0 : ∀ w', HeldB wP w' → w'.cell? ⟨gP, 0, none⟩ = some (.string a) ∧ w'.cell? ⟨gP, 1, none⟩ = some (.string b) := fun w' h => by
                have h4 := (h.block _ (blk_lt' HKP.out)).trans HKP.out
                exact ⟨cell_of_blk h4, cell_of_blk h4⟩
              have HK0 := Aside0.mk hk0
              have hh0 : HeldB wP wP := Below.refl _ _
              have hhd : ∀ w', HeldB wP w' → HeldB wP w'.drew := fun w' h => h.then_ ⟨rfl, rfl, rfl, Nat.le_refl _, fun _ _ => rfl⟩
              clear hwP hgP hkP hbP hk0
              go_upto_region 16 with (fail)
              rw [← HWP.out.2, ← HWP.out.1]
              go_region_held_law (fun w' => w'.cell? ⟨gP, 0, none⟩ = some (.string a) ∧ w'.cell? ⟨gP, 1, none⟩ = some (.string b)) (first | assumption | exact HK0.out _ (by first | assumption | exact hhd _ hh0))
               (first
                | (go_at_call 62; ((with_reducible refine (HT1.out _ (by first | assumption | exact hhd _ hh0)).mono ?_); rintro e w5 ⟨B5, d5, Y5, rfl, HR5, HY5, hH5⟩))
                | (go_at_call 62; ((with_reducible refine (HT2.out _ _ _ _ HR5 HY5 hH5).mono ?_); rintro e w6 ⟨v6, Z6, rfl, HO6, HZ6, hH6⟩)))
              all_goals
                have HBn := Aside0.mk (two_andj _ _ _ HB.out (two_andj _ _ _ HBP.out hH6))
                clear hH5 hH6 hh0 hhd
                go_wp2_with fail
                go_roundg (x.prs.length - (k + 1))
                case measure => omega
                case rel => exact ⟨k + 1, Z6, by omega, by go_num, ⟨by rw [HZ6.out, HX.out, encP_snoc _ k hlt, ← HY2.out]; simp only [List.append_assoc]⟩, HO6, HBn⟩
            · obtain rfl : k = x.prs.length := by omega
              have HX1 : Aside0 (X = bodyR x) := ⟨by rw [HX.out, List.take_length]; rfl⟩
              go_wp2_with fail
              go_ret
              exact ⟨_, _, rfl, HV.out, HX1, HB.out⟩
end Go.Proofs.Ytkgbcoijkmlmnaa.K
