/- The statement StageApart. -/
import Derived.Test.YtckjgfbfjjiikaaS7
set_option linter.unusedVariables false
set_option linter.unusedSimpArgs false
set_option maxRecDepth 100000
namespace Go.Proofs.Ytckjgfbfjjiikaa.K
open Go.RowKit Go.Proofs.YtckjgfbfjjiikaaW.PrintWords Go.Proofs.YtckjgfbfjjiikaaW.PrintLast Go.Proofs.YtckjgfbfjjiikaaW.PrintMore Go.Proofs.Ytckjgfbfjjiikaa.U Go.Proofs.Ytckjgfbfjjiikaa.T

theorem below_cs {w w' : World} (hb : Below w.heap.size w w') {a : Addr} {v : Value} (hc : w.cell? a = some v) : w'.cell? a = some v := (hb.cell (World.block_lt_of_cell? w _ hc)).trans hc
theorem putMA_other (M : Int → Int → List (List PairD)) (a b q s t : Int) (ps : List PairD) (h : ¬ (a = s ∧ b = t ∧ q = (M s t).length ∧ (M s t).length < 40)) : putMA M a b q ps s t = M s t := by
  unfold putMA
  split
  · rename_i ho
    obtain ⟨h1, h2, h3, h4, h5, h6⟩ := ho
    unfold putM
    split
    · rename_i he
      obtain ⟨rfl, rfl⟩ := he
      exact absurd ⟨rfl, rfl, h1, by omega⟩ h
    · rfl
  · rfl
theorem putMA_here (M : Int → Int → List (List PairD)) (s t : Int) (ps : List PairD) (hs : 0 ≤ s ∧ s < 6) (ht : 1 ≤ t ∧ t ≤ 3) (hl : (M s t).length < 40) : putMA M s t (M s t).length ps s t = M s t ++ [ps] := by
  unfold putMA
  rw [if_pos ⟨rfl, hs.1, hs.2, ht.1, ht.2, by omega⟩]
  unfold putM
  rw [if_pos ⟨rfl, rfl⟩]
set_option maxHeartbeats 3200000 in
theorem stageApart_walk (W : World) (A0 : Option Addr) (c0 : Nat) (l0 : List SActD) (hr0 : Kd.C kSAct W A0 l0.length l0) (hc0 : l0.length ≤ c0) (hg0 : ∀ x ∈ l0, GSAct x) (split : Int) (w1' : (Lit.int .i64 split).wf = true) (attempt : Int) (w2' : (Lit.int .i64 attempt).wf = true) :
    Calls Try.prog 7 #[.slice A0 l0.length c0, .int .i64 split, .int .i64 attempt] W fun e w' => e = .returned (.bool true) ∧ Below W.heap.size W w' := by
  have hm0 := Kd.C_max hr0
  have HR0 := Aside0.mk hr0
  have HG0 := Aside0.mk hg0
  clear hr0 hg0 w1' w2'
  have hua := Try.underlying47
  go_enter Try.func7, Try.ntmps7
  go_wp2_with fail
  refine (great18 A0 c0 l0 100 W HR0.out HG0.out).mono ?_
  rintro e w1 ⟨⟨r, rfl, hr⟩, hb1⟩
  have HB1 := Aside0.mk hb1
  clear hb1
  cases r with
  | true =>
    clear hr
    go_wp2_with fail
    refine (awake18 w1).mono ?_
    rintro e w3 ⟨rfl, hb3⟩
    have HB3 := Aside0.mk (two_ands _ _ _ HB1.out hb3)
    clear hb3
    go_wp2_with fail
    go_ret
    exact ⟨rfl, HB3.out⟩
  | false =>
    have HL := Aside0.mk (hr rfl).2
    have hl100 := (hr rfl).1
    clear hr
    obtain ⟨s0, hs0⟩ : ∃ q, q = lowN split 6 := ⟨_, rfl⟩
    obtain ⟨t0, ht0⟩ : ∃ q, q = lowN attempt 3 := ⟨_, rfl⟩
    have rs : 0 ≤ s0 ∧ s0 < 6 := by rw [hs0]; exact lowN_range _ _ (by omega)
    have rt : 0 ≤ t0 ∧ t0 < 3 := by rw [ht0]; exact lowN_range _ _ (by omega)
    obtain ⟨rs0, rs1⟩ := rs
    obtain ⟨rt0, rt1⟩ := rt
    have HS0 := Aside0.mk hs0
    have HT0 := Aside0.mk ht0
    clear hs0 ht0
    go_wp2_with fail
    refine (low split 6 _ (by omega) (by omega)).mono ?_
    rintro e w1' ⟨rfl, rfl⟩
    rw [← HS0.out]
    go_wp2_with fail
    refine (low attempt 3 _ (by omega) (by omega)).mono ?_
    rintro e w1' ⟨rfl, rfl⟩
    rw [← HT0.out]
    obtain ⟨a0, ha0⟩ : ∃ q, q = 1 + t0 := ⟨_, rfl⟩
    have HA0 := Aside0.mk ha0
    have ra0 : 1 ≤ a0 := by omega
    have ra1 : a0 ≤ 3 := by omega
    clear ha0
    go_wp2_with fail
    rw [← HA0.out]
    refine (staNew _ (fun _ => False) (fun _ h => h.elim) W.heap.size HB1.out.size).mono ?_
    rintro e w2 ⟨gs, rfl, h2, hb2⟩
    have H2 : Aside0 (Sta w2 gs W.heap.size (fun k => (Value.slice none 0 0).ownBlock = some k) [] (fun _ _ => [])) := ⟨Sta.ch (S := fun _ => False) h2 (Ch.refl _ _) (fun _ h => h.elim) (fun k hk => by cases hk)⟩
    have HB2 := Aside0.mk (two_ands _ _ _ HB1.out hb2)
    clear h2 hb2
    go_wp2_with fail
    go_loopg [8, 9, 10] l0.length (fun kq v8 v9 v10 w' => ∃ (k n : Nat) (ks : List (Int × Int)) (M : Int → Int → List (List PairD)) (X : List PairD), k + kq = l0.length ∧ v9 = .int .i64 n ∧ v10 = .int .i64 k ∧ n ≤ 40 ∧ Aside0 (n = (M s0 a0).length) ∧ Aside0 (X = (M s0 a0).flatten) ∧ Aside0 (Own kPair 80 w' W.heap.size v8 X) ∧ Aside0 (Sta w' gs W.heap.size (fun k => v8.ownBlock = some k) ks M) ∧ Aside0 (MOk ks M) ∧ Aside0 (Below W.heap.size W w'))
    case atStart => exact ⟨0, 0, [], fun _ _ => [], [], by omega, rfl, rfl, by omega, ⟨rfl⟩, ⟨rfl⟩, ⟨Own.nil _ _ _ _⟩, H2, ⟨MOk.none⟩, HB2⟩
    case round =>
      clear H2 HB2 HB1
      obtain ⟨k, n, ks, M, X, hk, rfl, rfl, hn40, HN, HX, HV, H, HM, HB⟩ := hrel
      obtain ⟨AX, cX, hv8, hcX, _⟩ := HV.out.reads
      subst hv8
      by_cases hlt : k < l0.length
      · obtain ⟨ad, A1, c1, rfl, hx0, hx1, hx2, hx3, hx4, hle, hC⟩ := at_sact HR0.out k hlt
        have hx0 := below_cs HB.out hx0
        have hx1 := below_cs HB.out hx1
        have hx2 := below_cs HB.out hx2
        have hx3 := below_cs HB.out hx3
        have hx4 := below_cs HB.out hx4
        have hpl := HL.out _ (List.getElem_mem hlt)
        obtain ⟨x, hx⟩ : ∃ x, x = l0[k] := ⟨_, rfl⟩
        rw [← hx] at hx0 hx1 hx2 hx3 hx4 hC hpl
        clear hx hle
        obtain ⟨act, sp, at', sq, ps⟩ := x
        have hpl : ps.length ≤ 20 := hpl
        obtain ⟨gx, hgx⟩ : ∃ gx, gx = wr.heap.size := ⟨_, rfl⟩
        obtain ⟨wx, hwx⟩ : ∃ wx, wx = wr.alloc (.cells #[.int .i64 act, .int .i64 sp, .int .i64 at', .int .i64 sq, .slice A1 ps.length c1] 47) := ⟨_, rfl⟩
        have hbx : wx.heap[gx]? = some (.cells ([.int .i64 act, .int .i64 sp, .int .i64 at', .int .i64 sq, .slice A1 ps.length c1] : List Value).toArray 47 (0, 0)) := by rw [hwx, hgx]; exact alloc_at wr _
        have hba := (Below.refl wr.heap.size wr).alloc (Nat.le_refl _) (.cells #[.int .i64 act, .int .i64 sp, .int .i64 at', .int .i64 sq, .slice A1 ps.length c1] 47)
        rw [← hwx] at hba
        have hBx := two_ands _ _ _ HB.out hba
        have hHx : Sta wx gs W.heap.size (fun k => (Value.slice AX X.length cX).ownBlock = some k ∨ k = gx) ks M := Sta.ch (S := fun _ => False) H.out (Ch.of_below hba _) (fun _ h => h.elim) (fun k hk => hk.imp id (fun h => by omega))
        have hVx := HV.out.below hba
        have hXl : ∀ k, ((Value.slice AX X.length cX).ownBlock = some k ∨ k = gx) → k < wx.heap.size := fun k hk => by
          rcases hk with hk | hk
          · exact hVx.lt k hk
          · rw [hk]; exact blk_lt' hbx
        have hCx := Kd.C_below hC hBx
        have hPut := staPut wx gs W.heap.size _ ks M hHx hXl hBx.size sp at' sq A1 ps c1 hCx (by omega)
        have HPUT := Aside0.mk hPut
        have HBx := Aside0.mk hBx
        have HVx := Aside0.mk hVx
        have HC0 := Aside0.mk hC
        have HKx := Aside0.mk hbx
        have HWX := Aside0.mk hwx.symm
        have HGX := Aside0.mk hgx.symm
        have HMP := Aside0.mk (HM.out.put sp at' sq ps hpl)
        have HGB : Aside0 (W.heap.size ≤ gx) := ⟨by rw [hgx]; exact HB.out.size⟩
        have hq1 : wx.cell? ⟨gx, 1, none⟩ = some (.int .i64 sp) := cell_of_blk hbx
        have hq2 : wx.cell? ⟨gx, 2, none⟩ = some (.int .i64 at') := cell_of_blk hbx
        have hq3 : wx.cell? ⟨gx, 3, none⟩ = some (.int .i64 sq) := cell_of_blk hbx
        have hq4 : wx.cell? ⟨gx, 4, none⟩ = some (.slice A1 ps.length c1) := cell_of_blk hbx
        clear hbx hwx hgx hba hBx hHx hVx hXl hCx hPut hC
        go_upto_region 13 with (fail)
        rw [HWX.out, HGX.out]
        clear HWX HGX hx0 hx1 hx2 hx3 hx4
        go_wp2_with fail
        refine HPUT.out.mono ?_
        rintro e w3 ⟨rfl, h3, hc3⟩
        have hk3 := hc3.blk HKx.out (fun h => h.2 (.inr rfl))
        have hV3 := HVx.out.ch flat_pair hc3 (fun k hk h => h.2 (.inl hk))
        have HB3 := Aside0.mk (Below.ch HBx.out hc3 HBx.out.size (fun k hk => hk.1))
        have HC3 := Aside0.mk (Kd.C_below HC0.out HB3.out)
        have h3' : Sta w3 gs W.heap.size (fun k => (Value.slice AX X.length cX).ownBlock = some k) (putKA ks M sp at' sq) (putMA M sp at' sq ps) := Sta.ch (S := fun _ => False) h3 (Ch.refl _ _) (fun _ h => h.elim) (fun k hk => .inl (.inl hk))
        have H3 := Aside0.mk h3'
        have HV3 := Aside0.mk hV3
        have hr1 : w3.cell? ⟨gx, 1, none⟩ = some (.int .i64 sp) := cell_of_blk hk3
        have hr2 : w3.cell? ⟨gx, 2, none⟩ = some (.int .i64 at') := cell_of_blk hk3
        have hr3 : w3.cell? ⟨gx, 3, none⟩ = some (.int .i64 sq) := cell_of_blk hk3
        have hr4 : w3.cell? ⟨gx, 4, none⟩ = some (.slice A1 ps.length c1) := cell_of_blk hk3
        clear h3 h3' hc3 hk3 hV3 hq1 hq2 hq3 hq4
        by_cases hcond : sp = s0 ∧ at' = a0 ∧ sq = n ∧ n < 40
        · obtain ⟨e1, e2, e3, e4⟩ := hcond
          have q1 : (sp == s0) = true := by simpa using e1
          have q2 : (at' == a0) = true := by simpa using e2
          have q3 : (sq == (n : Int)) = true := by simpa using e3
          have q4 : (n : Int) < 40 := by omega
          have HM3 : Aside0 (putMA M sp at' sq ps s0 a0 = M s0 a0 ++ [ps]) := ⟨by rw [e1, e2, e3, HN.out]; exact putMA_here M s0 a0 ps ⟨rs0, rs1⟩ ⟨ra0, ra1⟩ (by rw [← HN.out]; exact e4)⟩
          have hx800 : X.length ≤ 800 := by rw [HX.out]; exact HM.out.flat _ _
          have hbs := HB3.out.size
          clear e1 e2 e3
          go_wp2_with (at_builtin; refine wpList_app_own flat_pair W.heap.size rfl _ _ 45 80 _ 32 rfl Try.underlying45 info_pair rfl (by decide) (by decide) (.slice AX X.length cX) X ps A1 _ c1 rfl rfl HV3.out rfl HC3.out hbs (by omega) ?_; intro v4 w4 hv4 hg4 hat4; have HV4 := Aside0.mk hv4; have HG4 := Aside0.mk hg4; have HAT := Aside0.mk hat4; clear hv4 hg4 hat4)
          have hc4 := Ch.of_grown (S := fun k => (Value.slice AX X.length cX).ownBlock = some k) HG4.out (fun k hk => hk)
          have hH4 : Sta w4 gs W.heap.size (fun k => v4.ownBlock = some k) (putKA ks M sp at' sq) (putMA M sp at' sq ps) := Sta.ch H3.out hc4 (fun k hk _ => .inl hk) (fun k hk => HAT.out k hk)
          have H4 := Aside0.mk hH4
          have HB4 := Aside0.mk (Below.ch HB3.out hc4 HB3.out.size (fun k hk => HV3.out.base_ k hk))
          clear hc4 hH4
          obtain ⟨Y, hY⟩ : ∃ Y, Y = X ++ ps := ⟨_, rfl⟩
          obtain ⟨K2, hK2⟩ : ∃ K2, K2 = putKA ks M sp at' sq := ⟨_, rfl⟩
          obtain ⟨M2, hM2⟩ : ∃ M2, M2 = putMA M sp at' sq ps := ⟨_, rfl⟩
          have HX4 : Aside0 (Y = (M2 s0 a0).flatten) := ⟨by rw [hM2, HM3.out, hY, HX.out]; simp⟩
          have HV4' : Aside0 (Own kPair 80 w4 W.heap.size v4 Y) := ⟨by rw [hY]; exact HV4.out⟩
          have HN4 : Aside0 ((M2 s0 a0).length = n + 1) := ⟨by rw [hM2, HM3.out, HN.out]; simp⟩
          have H4' : Aside0 (Sta w4 gs W.heap.size (fun k => v4.ownBlock = some k) K2 M2) := ⟨by rw [hK2, hM2]; exact H4.out⟩
          have HMP' : Aside0 (MOk K2 M2) := ⟨by rw [hK2, hM2]; exact HMP.out⟩
          have hcount := HMP'.out.most
          obtain ⟨A4, c4, hv4, _, _⟩ := HV4'.out.reads
          clear hY H4 HM3 HMP HPUT HAT HV4 hK2 hM2
          subst hv4
          go_wp2_with fail
          refine (staNext w4 gs _ _ _ _ H4'.out s0 a0).mono ?_
          rintro e w4 ⟨rfl, rfl⟩
          rw [HN4.out]
          have hqn : (((n + 1 : Nat) : Int) != (n : Int) + 1) = false := by simp
          go_wp2_with fail
          refine (staCount w4 gs _ _ _ _ H4'.out).mono ?_
          rintro e w4 ⟨rfl, rfl⟩
          clear hqn
          go_wp2_with fail
          go_roundg (l0.length - (k + 1))
          case measure => omega
          case rel => exact ⟨k + 1, n + 1, K2, M2, Y, by omega, by go_num, by go_num, by omega, ⟨HN4.out.symm⟩, HX4, HV4', H4', HMP', HB4⟩
        · have HME : Aside0 (putMA M sp at' sq ps s0 a0 = M s0 a0) := ⟨putMA_other M sp at' sq s0 a0 ps (by rw [← HN.out]; exact hcond)⟩
          obtain ⟨K2, hK2⟩ : ∃ K2, K2 = putKA ks M sp at' sq := ⟨_, rfl⟩
          obtain ⟨M2, hM2⟩ : ∃ M2, M2 = putMA M sp at' sq ps := ⟨_, rfl⟩
          have HX4 : Aside0 (X = (M2 s0 a0).flatten) := ⟨by rw [hM2, HME.out]; exact HX.out⟩
          have HN4 : Aside0 ((M2 s0 a0).length = n) := ⟨by rw [hM2, HME.out]; exact HN.out.symm⟩
          have H4' : Aside0 (Sta w3 gs W.heap.size (fun k => (Value.slice AX X.length cX).ownBlock = some k) K2 M2) := ⟨by rw [hK2, hM2]; exact H3.out⟩
          have HMP' : Aside0 (MOk K2 M2) := ⟨by rw [hK2, hM2]; exact HMP.out⟩
          have hcount := HMP'.out.most
          have hqn : ((n : Int) != (n : Int)) = false := by simp
          have hor : (sp == s0) = false ∨ ((sp == s0) = true ∧ (at' == a0) = false) ∨ ((sp == s0) = true ∧ (at' == a0) = true ∧ (sq == (n : Int)) = false) ∨ ((sp == s0) = true ∧ (at' == a0) = true ∧ (sq == (n : Int)) = true ∧ ¬ (n : Int) < 40) := by
            by_cases e1 : sp = s0
            · by_cases e2 : at' = a0
              · by_cases e3 : sq = n
                · refine .inr (.inr (.inr ⟨by simpa using e1, by simpa using e2, by simpa using e3, fun h => hcond ⟨e1, e2, e3, by omega⟩⟩))
                · exact .inr (.inr (.inl ⟨by simpa using e1, by simpa using e2, by simpa using e3⟩))
              · exact .inr (.inl ⟨by simpa using e1, by simpa using e2⟩)
            · exact .inl (by simpa using e1)
          clear hcond HME HMP HPUT hK2 hM2 H3
          rcases hor with q1 | ⟨q1, q2⟩ | ⟨q1, q2, q3⟩ | ⟨q1, q2, q3, q4⟩
          all_goals
            go_wp2_with fail
            refine (staNext w3 gs _ _ _ _ H4'.out s0 a0).mono ?_
            rintro e w3 ⟨rfl, rfl⟩
            rw [HN4.out]
            go_wp2_with fail
            refine (staCount w3 gs _ _ _ _ H4'.out).mono ?_
            rintro e w3 ⟨rfl, rfl⟩
            go_wp2_with fail
            go_roundg (l0.length - (k + 1))
            case measure => omega
            case rel => exact ⟨k + 1, n, K2, M2, X, by omega, rfl, by go_num, hn40, ⟨HN4.out.symm⟩, HX4, HV3, H4', HMP', HB3⟩
      · have hflat := HM.out.flat s0 a0
        rw [← HX.out] at hflat
        have HFL := Aside0.mk hflat
        have HT1 : Aside0 (∀ w', Sta w' gs W.heap.size (fun k => (Value.slice AX X.length cX).ownBlock = some k) ks M → Calls Try.prog 33 #[.pointer (some ⟨gs, 0, none⟩), .int .i64 s0, .int .i64 a0, .int .i64 n] w' fun e w'' => ∃ v, e = .returned (.tuple #[v, .bool true]) ∧ Own kPair 80 w'' w'.heap.size v X ∧ Below w'.heap.size w' w'') := ⟨fun w' h => by
          refine (staTake_ok w' gs _ _ _ _ h s0 a0 n (by rw [HN.out]) (by rw [← HX.out]; have := HFL.out; omega)).mono ?_
          rintro e w'' ⟨v, Y, rfl, h1, h2, h3⟩
          have hY : Y = X := by rw [h2.out, HX.out]
          rw [hY] at h1
          exact ⟨v, rfl, h1, h3⟩⟩
        clear hflat
        go_wp2_with fail
        refine (HT1.out wr H.out).mono ?_
        rintro e w2 ⟨v2, rfl, hv2, hb2⟩
        obtain ⟨A2, c2, rfl, hle2, _⟩ := hv2.reads
        have H2 := Aside0.mk (H.out.below hb2)
        have HV2 := Aside0.mk (HV.out.below hb2)
        have HU2 := Aside0.mk hv2
        have HB2 := Aside0.mk (two_ands _ _ _ HB.out hb2)
        clear hv2 hb2 hle2
        go_wp2_with fail
        refine (staTake_no w2 gs _ _ _ _ H2.out s0 a0 (n + 1) (by rw [← HN.out]; omega)).mono ?_
        rintro e w2 ⟨rfl, rfl⟩
        go_wp2_with fail
        refine (samePairs A2 c2 X AX cX X w2 HU2.out.is.2.2 HV2.out.is.2.2 true (by simp)).mono ?_
        rintro e w3 ⟨rfl, hb3⟩
        have H3 := Aside0.mk (H2.out.below hb3)
        have HB3 := Aside0.mk (two_ands _ _ _ HB2.out hb3)
        clear hb3
        go_wp2_with fail
        refine (staNext w3 gs _ _ _ _ H3.out s0 a0).mono ?_
        rintro e w3 ⟨rfl, rfl⟩
        rw [← HN.out]
        have hqn : ((n : Int) == (n : Int)) = true := by simp
        go_wp2_with fail
        refine (awake18 w3).mono ?_
        rintro e w4 ⟨rfl, hb4⟩
        have HB4 := Aside0.mk (two_ands _ _ _ HB3.out hb4)
        clear hb4
        go_wp2_with fail
        go_ret
        exact ⟨rfl, HB4.out⟩
end Go.Proofs.Ytckjgfbfjjiikaa.K
