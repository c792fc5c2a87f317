/- Records laid: the program's. -/
import Derived.Test.YtkgbcoijkmlmnaaR5
import Derived.Test.YtkgbcoijkmlmnaaKB2
import Derived.Deep.CutRange
import Derived.Deep.CutBlock
set_option linter.unusedVariables false
set_option linter.unusedSimpArgs false
namespace Go.Proofs.Ytkgbcoijkmlmnaa.K
open Go.RowKit Go.Proofs.YtkgbcoijkmlmnaaW.PrintWords Go.Proofs.YtkgbcoijkmlmnaaW.PrintLast Go.Proofs.YtkgbcoijkmlmnaaW.PrintMore Go.Proofs.Ytkgbcoijkmlmnaa.U Go.Proofs.Ytkgbcoijkmlmnaa.T

/-- Bytes. -/
def OkB (l : List Int) : Prop := ∀ x ∈ l, 0 ≤ x ∧ x < 256
theorem OkB.append {a b : List Int} (h : OkB a) (k : OkB b) : OkB (a ++ b) := fun x hx => (List.mem_append.1 hx).elim (h x) (k x)
theorem okB_bytes8 (n : Int) (k : Nat) : OkB (bytes8 n k) := fun x hx => by
  obtain ⟨i, _, rfl⟩ := List.mem_map.1 hx
  exact byteN_range n i
theorem okB_bytesOf (s : ByteArray) : OkB (bytesOf s) := fun x hx => by
  obtain ⟨b, _, rfl⟩ := List.mem_map.1 hx
  exact ⟨by omega, by have := b.toNat_lt; omega⟩
theorem okB_enc1 (s : ByteArray) : OkB (enc1 s) := (okB_bytes8 _ _).append (okB_bytesOf _)
theorem okB_encN (l : List Int) : OkB (encN l) := fun x hx => by
  obtain ⟨n, _, hn⟩ := List.mem_flatMap.1 hx
  exact okB_bytes8 n 8 x hn
theorem okB_encP (l : List PairD) : OkB (encP l) := fun x hx => by
  obtain ⟨y, _, hn⟩ := List.mem_flatMap.1 hx
  exact (okB_enc1 y.key).append (okB_enc1 y.val) x hn
theorem okB_body (x : RecD) : OkB (bodyR x) := (((okB_encN _).append (okB_encN _)).append (okB_bytes8 _ _)).append (okB_encP _)
theorem okB_recB (x : RecD) : OkB (recB x) := (okB_bytes8 _ _).append (okB_body x)
theorem bytesOf_str (l : List Int) (h : OkB l) : bytesOf (strOfNums l) = l := by
  unfold bytesOf strOfNums
  simp only [List.map_map]
  conv => rhs; rw [← List.map_id l]
  refine List.map_congr_left (fun x hx => ?_)
  have := h x hx
  simp [UInt8.toNat_ofNat']
  omega
theorem size_str (l : List Int) : (strOfNums l).size = l.length := by simp [strOfNums, ByteArray.size]
/-- All records' bytes. -/
def allR (l : List RecD) : List Int := l.flatMap recB
def layR (l : List RecD) : List Int := if ∀ x ∈ l, MayR x then allR l else []
theorem allR_snoc (l : List RecD) (k : Nat) (h : k < l.length) : allR (l.take (k + 1)) = allR (l.take k) ++ recB l[k] := by
  rw [List.take_succ_eq_append_getElem h, allR, List.flatMap_append]
  simp [allR]
theorem mayR_small {x : RecD} (h : MayR x) : x.set.length ≤ 6 ∧ x.prs.length ≤ 40 ∧ ∀ y ∈ x.prs, y.key.size ≤ 64 ∧ y.val.size ≤ 64 := by
  have nil : x.prs.length = 0 → ∀ y ∈ x.prs, y.key.size ≤ 64 ∧ y.val.size ≤ 64 := fun h0 y hy => by
    rw [List.eq_nil_of_length_eq_zero h0] at hy
    simp at hy
  unfold MayR MayP at h
  rcases h with ⟨_, _, _, _, _, h1, h2⟩ | ⟨_, _, _, _, _, h1, h2⟩ | ⟨_, _, h1, h2⟩ | ⟨_, _, _, _, _, h1, h2, h3⟩ | ⟨_, _, _, _, _, h1, h2⟩
  · exact ⟨by have := h1.1; omega, by omega, nil (by omega)⟩
  · exact ⟨by omega, by omega, nil (by omega)⟩
  · exact ⟨by omega, by omega, nil (by omega)⟩
  · exact ⟨by omega, by omega, fun y hy => by have := h3 y hy; omega⟩
  · exact ⟨setMay_six h1, by omega, nil (by omega)⟩
theorem recB_small {x : RecD} (h : MayR x) : (bodyR x).length ≤ 5888 ∧ (recB x).length ≤ 5896 := by
  obtain ⟨h1, h2, h3⟩ := mayR_small h
  have h4 := encP_small x.prs 64 h3
  have h5 : (2 * 64 + 16) * x.prs.length ≤ 144 * 40 := Nat.mul_le_mul (Nat.le_refl _) h2
  have h6 : (bodyR x).length ≤ 5888 := by
    rw [bodyR, List.length_append, List.length_append, List.length_append, encN_length, encN_length, bytes8_length]
    simp only [sixR, List.length_cons, List.length_nil]
    omega
  exact ⟨h6, by rw [recB, List.length_append, bytes8_length]; omega⟩
theorem allR_small (l : List RecD) (h : ∀ x ∈ l, MayR x) : (allR l).length ≤ 5896 * l.length := by
  induction l with
  | nil => simp [allR]
  | cons x xs ih =>
    have h1 := recB_small (h x (List.mem_cons_self ..))
    have h2 := ih (fun y hy => h y (List.mem_cons_of_mem _ hy))
    have h4 : (allR (x :: xs)).length = (recB x).length + (allR xs).length := by rw [allR, List.flatMap_cons, List.length_append]; rfl
    rw [List.length_cons]
    omega

/-- The cells of record x at address p, as a walk reckons them. -/
structure RecAt (w : World) (p : Addr) (x : RecD) (sv pv : Value) : Prop where
  c0 : w.cell? p = some (.int .i64 x.k)
  c1 : w.cell? ⟨p.block, p.off + 1, none⟩ = some (.int .i64 x.p)
  c2 : w.cell? ⟨p.block, p.off + 2, none⟩ = some (.int .i64 x.s)
  c3 : w.cell? ⟨p.block, p.off + 3, none⟩ = some (.int .i64 x.a)
  c4 : w.cell? ⟨p.block, p.off + 4, none⟩ = some (.int .i64 x.r)
  c5 : w.cell? ⟨p.block, p.off + 5, none⟩ = some sv
  c6 : w.cell? ⟨p.block, p.off + 6, none⟩ = some pv
theorem RecAt.of {w : World} {ad : Addr} {n : Nat} {x : RecD} {sv pv : Value} (h : ∀ i u, (rawR x sv pv)[i]? = some u → w.cell? (ad.add (n + i)) = some u) : RecAt w (ad.add n) x sv pv := by
  have key : ∀ i u, (rawR x sv pv)[i + 1]? = some u → w.cell? ⟨(ad.add n).block, (ad.add n).off + (i + 1), none⟩ = some u := by
    intro i u hu
    have := h (i + 1) u hu
    rw [show n + (i + 1) = n + i + 1 from by omega] at this
    by_cases h0 : i = 0
    · subst h0
      rw [← add_add'] at this
      exact this
    · rw [← this]
      congr 1
      simp [Addr.add]
      split
      · simp_all
      · simp; omega
  exact ⟨h 0 _ rfl, key 0 _ rfl, key 1 _ rfl, key 2 _ rfl, key 3 _ rfl, key 4 _ rfl, key 5 _ rfl⟩
theorem RecAt.below {w w' : World} {p : Addr} {x : RecD} {sv pv : Value} (h : RecAt w p x sv pv) (hb : Below w.heap.size w w') : RecAt w' p x sv pv := by
  have key : ∀ a v, w.cell? a = some v → w'.cell? a = some v := fun a v hc => (hb.cell (World.block_lt_of_cell? w a hc)).trans hc
  exact ⟨key _ _ h.c0, key _ _ h.c1, key _ _ h.c2, key _ _ h.c3, key _ _ h.c4, key _ _ h.c5, key _ _ h.c6⟩
def zeroRec : RecD := ⟨0, 0, 0, 0, 0, [], []⟩

set_option maxHeartbeats 3200000 in
set_option maxRecDepth 100000 in
theorem layM (A0 : Option Addr) (c0 : Nat) (rs : List RecD) (w : World) (hr0 : Kd.C kRec w A0 rs.length rs) (hl : rs.length ≤ 1000) :
    Calls Try.prog 34 #[.slice A0 rs.length c0] w fun e w' => ∃ v X, e = .returned v ∧ Own (Kd.int .u8) 5 w' w.heap.size v X ∧ Aside0 (X = layR rs) ∧ Below w.heap.size w w' := by
  have HR0 := Aside0.mk hr0
  clear hr0
  have hu := Try.underlying64
  go_enter Try.func34, Try.ntmps34
  go_wp2_with fail
  go_loopg [3, 8] rs.length (fun kq v3 v8 w' => ∃ (k : Nat) (X : List Int), k + kq = rs.length ∧ v8 = .int .i64 k ∧ Aside0 (X = allR (rs.take k)) ∧ Aside0 (∀ y ∈ rs.take k, MayR y) ∧ Aside0 (Own (Kd.int .u8) 5 w' w.heap.size v3 X) ∧ Aside0 (Below w.heap.size w w'))
  case atStart => exact ⟨0, _, by omega, rfl, ⟨rfl⟩, ⟨by simp⟩, ⟨Own.nil _ _ _ _⟩, ⟨Below.refl _ _⟩⟩
  case round =>
    obtain ⟨k, X, hk, rfl, HX, HA, HV, HB⟩ := hrel
    obtain ⟨Ax, cx, rfl, hcx, hrx⟩ := HV.out.reads
    have HRX := Aside0.mk hrx
    have hXl : X.length ≤ 5896000 := by
      have h := allR_small (rs.take k) HA.out
      rw [List.length_take] at h
      rw [HX.out]
      omega
    have HXl := Aside0.mk hXl
    clear hrx hXl
    by_cases hlt : k < rs.length
    · obtain ⟨ad, A1, A2, c1, c2, rfl, hC, hcell⟩ := at_rec (Kd.C_below HR0.out HB.out) k hlt zeroRec
      have hat := RecAt.of hcell
      obtain ⟨x, hx⟩ : ∃ x, x = rs[k] := ⟨_, rfl⟩
      rw [← hx] at hC hat
      obtain ⟨P, hP⟩ : ∃ P, ad.add (k * 7) = P := ⟨_, rfl⟩
      rw [hP] at hat
      obtain ⟨g0, o0, q0⟩ := P
      obtain ⟨n1, hn1⟩ : ∃ n, n = x.set.length := ⟨_, rfl⟩
      obtain ⟨n2, hn2⟩ : ∃ n, n = x.prs.length := ⟨_, rfl⟩
      rw [← hn1, ← hn2] at hat
      obtain ⟨f0, f1, f2, f3, f4, f5, f6⟩ := hat
      have HX0 := Aside0.mk hx
      have HN := Aside0.mk (And.intro hn1 hn2)
      obtain ⟨gP, hgP⟩ : ∃ g, g = wr.heap.size := ⟨_, rfl⟩
      obtain ⟨wP, hwP⟩ : ∃ wP, wP = wr.alloc (.cells #[.int .i64 x.k, .int .i64 x.p, .int .i64 x.s, .int .i64 x.a, .int .i64 x.r, .slice A1 n1 c1, .slice A2 n2 c2] 64) := ⟨_, rfl⟩
      have hbP : Below wr.heap.size wr wP := by rw [hwP]; exact (Below.refl _ _).alloc (Nat.le_refl _) _
      have hkP : wP.heap[gP]? = some (.cells (rawR x (.slice A1 n1 c1) (.slice A2 n2 c2)).toArray 64 (0, 0)) := by rw [hwP, hgP]; exact alloc_at wr _
      have HC := Aside0.mk (hC.below hbP)
      have HBP := Aside0.mk hbP
      have HKP := Aside0.mk hkP
      have HWP := Aside0.mk (And.intro hwP hgP)
      obtain ⟨r, hr⟩ := bool_of (MayR x)
      have HMAY : Aside0 (Calls Try.prog 33 #[.agg #[.int .i64 x.k, .int .i64 x.p, .int .i64 x.s, .int .i64 x.a, .int .i64 x.r, .slice A1 n1 c1, .slice A2 n2 c2]] wP fun e w' => e = .returned (.bool r) ∧ Below wP.heap.size wP w') := ⟨by rw [hn1, hn2]; exact mayRec x A1 A2 c1 c2 wP HC.out r hr⟩
      have HRM := Aside0.mk hr
      clear hx hn1 hn2 hgP hwP hbP hkP hC hcell hr
      go_upto_region 5 with (fail)
      rw [← HWP.out.2, ← HWP.out.1]
      have y0 : wP.cell? ⟨gP, 0, none⟩ = some (.int .i64 x.k) := cell_of_blk HKP.out
      have y1 : wP.cell? ⟨gP, 1, none⟩ = some (.int .i64 x.p) := cell_of_blk HKP.out
      have y2 : wP.cell? ⟨gP, 2, none⟩ = some (.int .i64 x.s) := cell_of_blk HKP.out
      have y3 : wP.cell? ⟨gP, 3, none⟩ = some (.int .i64 x.a) := cell_of_blk HKP.out
      have y4 : wP.cell? ⟨gP, 4, none⟩ = some (.int .i64 x.r) := cell_of_blk HKP.out
      have y5 : wP.cell? ⟨gP, 5, none⟩ = some (.slice A1 n1 c1) := cell_of_blk HKP.out
      have y6 : wP.cell? ⟨gP, 6, none⟩ = some (.slice A2 n2 c2) := cell_of_blk HKP.out
      clear f0 f1 f2 f3 f4 f5 f6
      go_wp2_with fail
      refine HMAY.out.mono ?_
      rintro e w2 ⟨rfl, hb2⟩
      have HB2 := Aside0.mk hb2
      cases r with
      | false =>
        have HNO : Aside0 (layR rs = []) := ⟨by
          unfold layR
          rw [if_neg]
          intro h
          have h2 := HRM.out.2 (by rw [HX0.out]; exact h _ (List.getElem_mem _))
          cases h2⟩
        clear y0 y1 y2 y3 y4 y5 y6 hb2
        go_wp2_with fail
        go_ret
        exact ⟨_, _, rfl, Own.nil _ _ _ _, ⟨HNO.out.symm⟩, two_andj _ _ _ (two_andj _ _ _ HB.out HBP.out) HB2.out⟩
      | true =>
        have HM := Aside0.mk (HRM.out.1 rfl)
        have hk2 := (hb2.block _ (blk_lt' HKP.out)).trans HKP.out
        have HBD : Aside0 (Calls Try.prog 63 #[.agg #[.int .i64 x.k, .int .i64 x.p, .int .i64 x.s, .int .i64 x.a, .int .i64 x.r, .slice A1 n1 c1, .slice A2 n2 c2]] w2 fun e w' => ∃ A c, e = .returned (.slice A (List.length (bodyR x)) c) ∧ Kd.C (Kd.int .u8) w' A (bodyR x).length (bodyR x) ∧ Below w2.heap.size w2 w') := ⟨by
          rw [HN.out.1, HN.out.2]
          have h6 := mayR_small HM.out
          refine (bodyM x A1 A2 c1 c2 w2 (HC.out.below hb2) (by omega) (by omega) (fun y hy => by have := h6.2.2 y hy; omega)).mono ?_
          rintro e w' ⟨v, Y, rfl, hO, HY, hb⟩
          obtain ⟨A, c, rfl, _, hR⟩ := hO.reads
          have hY := HY.out
          subst hY
          exact ⟨A, c, rfl, hR, hb⟩⟩
        clear y0 y1 y2 y3 y4 y5 y6 hb2
        have y0 : w2.cell? ⟨gP, 0, none⟩ = some (.int .i64 x.k) := cell_of_blk hk2
        have y1 : w2.cell? ⟨gP, 1, none⟩ = some (.int .i64 x.p) := cell_of_blk hk2
        have y2 : w2.cell? ⟨gP, 2, none⟩ = some (.int .i64 x.s) := cell_of_blk hk2
        have y3 : w2.cell? ⟨gP, 3, none⟩ = some (.int .i64 x.a) := cell_of_blk hk2
        have y4 : w2.cell? ⟨gP, 4, none⟩ = some (.int .i64 x.r) := cell_of_blk hk2
        have y5 : w2.cell? ⟨gP, 5, none⟩ = some (.slice A1 n1 c1) := cell_of_blk hk2
        have y6 : w2.cell? ⟨gP, 6, none⟩ = some (.slice A2 n2 c2) := cell_of_blk hk2
        clear hk2
        go_wp2_with fail
        refine HBD.out.mono ?_
        rintro e w3 ⟨A3, c3, rfl, hR3, hb3⟩
        have HR3 := Aside0.mk hR3
        have HB3 := Aside0.mk (two_andj _ _ _ (two_andj _ _ _ HBP.out HB2.out) hb3)
        clear hR3 hb3 y0 y1 y2 y3 y4 y5 y6
        go_wp2_with fail
        refine upon_runs (string_runs Try.prog 52 5 9 Try.underlying52 Try.underlying5 Try.underlying9 HR3.out rfl) ?_
        rintro _ w4 ⟨rfl, rfl⟩
        have hsz : (strOfNums (bodyR x)).size ≤ 5888 := by rw [size_str]; exact (recB_small HM.out).1
        have HSZ := Aside0.mk hsz
        clear hsz
        go_wp2_with fail
        refine (text Ax cx X (strOfNums (bodyR x)) w4 (Kd.C_below HRX.out HB3.out) (by have := HXl.out; omega) (by have := HSZ.out; omega)).mono ?_
        rintro e w5 ⟨v5, Y5, rfl, hO5, HY5, hb5⟩
        have HO5 := Aside0.mk (hO5.lower (Nat.le_trans HB.out.size HB3.out.size))
        have HB5 := Aside0.mk (two_andj _ _ _ HB.out (two_andj _ _ _ HB3.out hb5))
        clear hO5 hb5
        go_wp2_with fail
        go_roundg (rs.length - (k + 1))
        case measure => omega
        case rel =>
          refine ⟨k + 1, Y5, by omega, by go_num, ⟨?_⟩, ⟨?_⟩, HO5, HB5⟩
          · rw [HY5.out, HX.out, allR_snoc _ k hlt, ← HX0.out, recB, size_str, bytesOf_str _ (okB_body x), List.append_assoc]
          · intro y hy
            rw [List.take_succ_eq_append_getElem hlt] at hy
            rcases List.mem_append.1 hy with hy | hy
            · exact HA.out y hy
            · obtain rfl := List.mem_singleton.1 hy
              rw [← HX0.out]
              exact HM.out
    · obtain rfl : k = rs.length := by omega
      have HX1 : Aside0 (X = layR rs) := ⟨by
        have h := HA.out
        rw [List.take_length] at h
        rw [HX.out, List.take_length, layR, if_pos h]⟩
      go_wp2_with fail
      go_ret
      exact ⟨_, _, rfl, HV.out, HX1, HB.out⟩
end Go.Proofs.Ytkgbcoijkmlmnaa.K
