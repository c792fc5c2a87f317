/- The statement StageOrder. -/
import Derived.Test.YtckjgfbfjjiikaaS8
set_option linter.unusedVariables false
set_option linter.unusedSimpArgs false
set_option maxRecDepth 100000
namespace Go.Proofs.Ytckjgfbfjjiikaa.K
open Go.RowKit Go.Proofs.YtckjgfbfjjiikaaW.PrintWords Go.Proofs.YtckjgfbfjjiikaaW.PrintLast Go.Proofs.YtckjgfbfjjiikaaW.PrintMore Go.Proofs.Ytckjgfbfjjiikaa.U Go.Proofs.Ytckjgfbfjjiikaa.T

theorem at_intz {w : World} {A : Option Addr} {n : Nat} {xs : List Int} (h : Kd.C (Kd.int .i64) w A n xs) (k : Nat) (hk : k < xs.length) : ∃ ad, A = some ad ∧ w.cell? (ad.add k) = some (.int .i64 xs[k]) := by
  obtain ⟨ad, e, hc⟩ := reads_cells h (by have := Kd.C_len h; omega)
  exact ⟨ad, e, hc k _ (by simp [nums, hk])⟩
/-- The first n chunks of xss are kept of attempt 2 at split 3. -/
def OrdS (w : World) (gs B : Nat) (X : Nat → Prop) (xss : List (List PairD)) (n : Nat) : Prop := ∃ ks M, Sta w gs B X ks M ∧ MOk ks M ∧ M 3 2 = xss.take n ∧ M 3 1 = []
section
variable {w w' : World} {gs B n : Nat} {X X' S : Nat → Prop} {xss : List (List PairD)}
theorem OrdS.below (h : OrdS w gs B X xss n) (hb : Below w.heap.size w w') : OrdS w' gs B X xss n := by
  obtain ⟨ks, M, h1, h2, h3, h4⟩ := h
  exact ⟨ks, M, h1.below hb, h2, h3, h4⟩
theorem OrdS.len (h : OrdS w gs B X xss n) (hn : n ≤ xss.length) : (xss.take n).length = n := by rw [List.length_take]; omega
end
section
variable (w : World) (gs B n : Nat) (X : Nat → Prop) (xss : List (List PairD)) (h : OrdS w gs B X xss n) (hn : n ≤ xss.length)
include h hn
theorem ordNext : Calls Try.prog 39 #[.pointer (some ⟨gs, 0, none⟩), .int .i64 3, .int .i64 2] w fun e w' => e = .returned (.int .i64 n) ∧ w' = w := by
  have hl := h.len hn
  obtain ⟨ks, M, h1, h2, h3, h4⟩ := h
  refine (staNext w gs B X ks M h1 3 2).mono ?_
  rintro e w' ⟨rfl, rfl⟩
  rw [h3, hl]
  exact ⟨rfl, rfl⟩
theorem ordPut (hl20 : xss.length ≤ 20) (hch : ∀ l ∈ xss, l.length ≤ 5) (hX : ∀ k, X k → k < w.heap.size) (hB : B ≤ w.heap.size) (q : Nat) (A : Option Addr) (ps : List PairD) (hps : xss[q]? = some ps) (c : Nat) (hC : Kd.C kPair w A ps.length ps) :
    Calls Try.prog 29 #[.pointer (some ⟨gs, 0, none⟩), .int .i64 3, .int .i64 2, .int .i64 q, .slice A ps.length c] w fun e w' => ∃ n' : Nat, e = .returned (.int .i64 n') ∧ Aside0 ((q = n ∧ n' = n + 1) ∨ (q ≠ n ∧ n' = n)) ∧ Aside0 (n' ≤ xss.length) ∧ OrdS w' gs B X xss n' ∧ Ch w w' (fun k => B ≤ k ∧ ¬ X k) := by
  have hl := h.len hn
  obtain ⟨ks, M, h1, h2, h3, h4⟩ := h
  obtain ⟨hq, hqe⟩ := List.getElem?_eq_some_iff.1 hps
  have h5 : ps.length ≤ 5 := hch ps (by rw [← hqe]; exact List.getElem_mem _)
  refine (staPut w gs B X ks M h1 hX hB 3 2 q A ps c hC (by omega)).mono ?_
  rintro e w' ⟨rfl, h6, h7⟩
  have hm : MOk (putKA ks M 3 2 q) (putMA M 3 2 q ps) := h2.put 3 2 q ps (by omega)
  have hm31 : putMA M 3 2 q ps 3 1 = [] := by rw [putMA_other _ _ _ _ _ _ _ (by omega), h4]
  by_cases hqn : q = n
  · subst hqn
    have hlen : (M 3 2).length = q := by rw [h3, hl]
    have hok : okPut M 3 2 q := ⟨by rw [hlen], by omega, by omega, by omega, by omega, by omega⟩
    have h32 : putMA M 3 2 q ps 3 2 = xss.take (q + 1) := by
      have := putMA_here M 3 2 ps (by omega) (by omega) (by rw [hlen]; omega)
      rw [hlen] at this
      rw [this, h3, List.take_succ_eq_append_getElem hq, hqe]
    exact ⟨q + 1, by unfold putN; rw [if_pos hok, hlen]; rfl, ⟨.inl ⟨rfl, rfl⟩⟩, ⟨by omega⟩, ⟨_, _, h6, hm, h32, hm31⟩, h7⟩
  · have hlen : (M 3 2).length = n := by rw [h3, hl]
    have hno : ¬ okPut M 3 2 q := fun ho => by have := ho.1; rw [hlen] at this; omega
    have h32 : putMA M 3 2 q ps 3 2 = xss.take n := by
      unfold putMA
      rw [if_neg hno, h3]
    exact ⟨n, by unfold putN; rw [if_neg hno, hlen], ⟨.inr ⟨hqn, rfl⟩⟩, ⟨hn⟩, ⟨_, _, h6, hm, h32, hm31⟩, h7⟩
end
theorem ordNext1 (w : World) (gs B n : Nat) (X : Nat → Prop) (xss : List (List PairD)) (h : OrdS w gs B X xss n) : Calls Try.prog 39 #[.pointer (some ⟨gs, 0, none⟩), .int .i64 3, .int .i64 1] w fun e w' => e = .returned (.int .i64 0) ∧ w' = w := by
  obtain ⟨ks, M, h1, h2, h3, h4⟩ := h
  refine (staNext w gs B X ks M h1 3 1).mono ?_
  rintro e w' ⟨rfl, rfl⟩
  rw [h4]
  exact ⟨rfl, rfl⟩
theorem ordTake (w : World) (gs B n : Nat) (X : Nat → Prop) (xss : List (List PairD)) (h : OrdS w gs B X xss n) (hnn : n = xss.length) (hl : xss.flatten.length ≤ 1000) : Calls Try.prog 33 #[.pointer (some ⟨gs, 0, none⟩), .int .i64 3, .int .i64 2, .int .i64 n] w fun e w' => ∃ v Y, e = .returned (.tuple #[v, .bool true]) ∧ Own kPair 80 w' w.heap.size v Y ∧ Aside0 (Y = xss.flatten) ∧ Below w.heap.size w w' := by
  obtain ⟨ks, M, h1, h2, h3, h4⟩ := h
  have e1 : M 3 2 = xss := by rw [h3, hnn, List.take_length]
  refine (staTake_ok w gs B X ks M h1 3 2 n (by rw [e1, hnn]) (by rw [e1]; omega)).mono ?_
  rintro e w' ⟨v, Y, rfl, h5, h6, h7⟩
  exact ⟨v, Y, rfl, h5, ⟨by rw [h6.out, e1]⟩, h7⟩
theorem flat_le5 (l : List (List PairD)) (h : ∀ x ∈ l, x.length ≤ 5) : l.flatten.length ≤ 5 * l.length := by
  induction l with
  | nil => simp
  | cons x l ih =>
    rw [List.flatten_cons, List.length_append, List.length_cons]
    have h1 := h x (List.mem_cons_self ..)
    have h2 := ih (fun y hy => h y (List.mem_cons_of_mem _ hy))
    omega

set_option maxHeartbeats 3200000 in
theorem stageOrder_walk (W : World) (A0 : Option Addr) (c0 : Nat) (l0 : List (List PairD)) (hr0 : Kd.C kRows W A0 l0.length l0) (hc0 : l0.length ≤ c0) (hg0 : ∀ x ∈ l0, ∀ p ∈ x, GPair p) (A1 : Option Addr) (c1 : Nat) (l1 : List Int) (hr1 : Kd.C (Kd.int .i64) W A1 l1.length l1) (hc1 : l1.length ≤ c1) (hg1 : ∀ x ∈ l1, (Lit.int .i64 x).wf = true) :
    Calls Try.prog 10 #[.slice A0 l0.length c0, .slice A1 l1.length c1] W fun e w' => e = .returned (.bool true) ∧ Below W.heap.size W w' := by
  have hm0 := Kd.C_max hr0
  have hm1 := Kd.C_max hr1
  have HR0 := Aside0.mk hr0
  have HR1 := Aside0.mk hr1
  have HG0 := Aside0.mk hg0
  clear hr0 hg0 hr1 hg1
  by_cases hbig : (20 : Int) < l0.length
  · go_enter Try.func10, Try.ntmps10
    go_wp2_with fail
    refine (awake18 W).mono ?_
    rintro e w3 ⟨rfl, hb3⟩
    have HB3 := Aside0.mk hb3
    clear hb3
    go_wp2_with fail
    go_ret
    exact ⟨rfl, HB3.out⟩
  by_cases hbig2 : (100 : Int) < l1.length
  · go_enter Try.func10, Try.ntmps10
    go_wp2_with fail
    refine (awake18 W).mono ?_
    rintro e w3 ⟨rfl, hb3⟩
    have HB3 := Aside0.mk hb3
    clear hb3
    go_wp2_with fail
    go_ret
    exact ⟨rfl, HB3.out⟩
  have hl20 : l0.length ≤ 20 := by omega
  have hl100 : l1.length ≤ 100 := by omega
  go_enter Try.func10, Try.ntmps10
  go_wp2_with fail
  go_loopg [5, 6] l0.length (fun kq v5 v6 w' => ∃ (k : Nat) (X : List PairD), k + kq = l0.length ∧ v6 = .int .i64 k ∧ Aside0 (X = (l0.take k).flatten) ∧ Aside0 (∀ l ∈ l0.take k, l.length ≤ 5) ∧ Aside0 (Own kPair 80 w' W.heap.size v5 X) ∧ Aside0 (Below W.heap.size W w'))
  case atStart => exact ⟨0, [], by omega, rfl, ⟨rfl⟩, ⟨by simp⟩, ⟨Own.nil _ _ _ _⟩, ⟨Below.refl _ _⟩⟩
  case round =>
    obtain ⟨k, X, hk, rfl, HX, HF, HV, HB⟩ := hrel
    obtain ⟨AX, cX, hv5, hcX, _⟩ := HV.out.reads
    subst hv5
    by_cases hlt : k < l0.length
    · obtain ⟨ad, A2, c2, rfl, hx0, hle, hC⟩ := at_rows HR0.out k hlt
      have hx0 := below_cs HB.out hx0
      have hG := HG0.out _ (List.getElem_mem hlt)
      have hts := List.take_succ_eq_append_getElem hlt
      obtain ⟨ps, hps⟩ : ∃ ps, ps = l0[k] := ⟨_, rfl⟩
      rw [← hps] at hx0 hC hG hts
      have HC := Aside0.mk hC
      have HG := Aside0.mk hG
      have HTS := Aside0.mk hts
      have hx100 : X.length ≤ 100 := by rw [HX.out]; have := flat_le5 _ HF.out; rw [List.length_take] at this; omega
      clear hC hG hts hle hps
      go_wp2_with fail
      refine (greatPairs A2 c2 ps 5 wr (Kd.C_below HC.out HB.out) HG.out).mono ?_
      rintro e w1 ⟨⟨r, rfl, hr⟩, hb1⟩
      have HB1 := Aside0.mk (two_ands _ _ _ HB.out hb1)
      have HV1 := Aside0.mk (HV.out.below hb1)
      have hx1 := below_cs hb1 hx0
      clear hb1 hx0
      cases r with
      | true =>
        clear hr
        go_wp2_with fail
        refine (awake18 w1).mono ?_
        rintro e w3 ⟨rfl, hb3⟩
        have HB3 := Aside0.mk (two_ands _ _ _ HB1.out hb3)
        clear hb3
        go_wp2_with fail
        go_ret
        exact ⟨rfl, HB3.out⟩
      | false =>
        have h5 : ps.length ≤ 5 := by have := (hr rfl).1; omega
        have hbs := HB1.out.size
        clear hr
        go_wp2_with (at_builtin; refine wpList_app_own flat_pair W.heap.size rfl _ _ 45 80 _ 32 rfl Try.underlying45 info_pair rfl (by decide) (by decide) (.slice AX X.length cX) X ps A2 _ c2 rfl rfl HV1.out rfl (Kd.C_below HC.out HB1.out) hbs (by omega) ?_; intro v4 w4 hv4 hg4 hat4; have HV4 := Aside0.mk hv4; have HG4 := Aside0.mk hg4; clear hv4 hg4 hat4)
        have HB4 := Aside0.mk (HB1.out.grown HG4.out hbs (fun k hk => HV1.out.base_ k hk))
        go_roundg (l0.length - (k + 1))
        case measure => omega
        case rel => exact ⟨k + 1, X ++ ps, by omega, by go_num, ⟨by rw [HTS.out, List.flatten_append, HX.out]; simp⟩, ⟨fun l hl => by
          rw [HTS.out] at hl
          rcases List.mem_append.1 hl with hl | hl
          · exact HF.out l hl
          · rw [List.mem_singleton.1 hl]; exact h5⟩, HV4, HB4⟩
    · obtain rfl : k = l0.length := by omega
      have hF : ∀ l ∈ l0, l.length ≤ 5 := by have := HF.out; rwa [List.take_length] at this
      have hX : X = l0.flatten := by rw [HX.out, List.take_length]
      have HF := Aside0.mk hF
      have HXX := Aside0.mk hX
      have HFL : Aside0 (l0.flatten.length ≤ 100) := ⟨by have := flat_le5 _ hF; omega⟩
      clear hF hX
      go_wp2_with fail
      refine (staNew _ (fun k => (Value.slice AX X.length cX).ownBlock = some k) (fun k hk => HV.out.lt k hk) W.heap.size HB.out.size).mono ?_
      rintro e w2 ⟨gs, rfl, h2, hb2⟩
      have HV2 := Aside0.mk (HV.out.below hb2)
      have HB2 := Aside0.mk (two_ands _ _ _ HB.out hb2)
      have H2 : Aside0 (OrdS w2 gs W.heap.size (fun k => (Value.slice AX X.length cX).ownBlock = some k) l0 0) := ⟨⟨[], fun _ _ => [], h2, MOk.none, rfl, rfl⟩⟩
      clear h2 hb2
      go_wp2_with fail
      go_loopg [8] l1.length (fun kq v8 w' => ∃ (i n : Nat), i + kq = l1.length ∧ v8 = .int .i64 i ∧ n ≤ l0.length ∧ Aside0 (OrdS w' gs W.heap.size (fun k => (Value.slice AX X.length cX).ownBlock = some k) l0 n) ∧ Aside0 (Own kPair 80 w' W.heap.size (.slice AX X.length cX) X) ∧ Aside0 (Below W.heap.size W w'))
      case atStart => exact ⟨0, 0, by omega, rfl, Nat.zero_le _, H2, HV2, HB2⟩
      case round =>
        clear H2 HV2 HB2 HV HB HX
        obtain ⟨i, n, hi, rfl, hn, H, HV, HB⟩ := hrel
        by_cases hgo : i < l1.length ∧ 0 < l0.length
        · obtain ⟨hlt, hpos⟩ := hgo
          obtain ⟨ad1, rfl, hy0⟩ := at_intz HR1.out i hlt
          have hy0 := below_cs HB.out hy0
          obtain ⟨q, hq⟩ : ∃ q : Nat, (q : Int) = lowN l1[i] l0.length := ⟨(lowN l1[i] l0.length).toNat, by have := (lowN_range l1[i] l0.length (by omega)).1; omega⟩
          have hql : q < l0.length := by have := (lowN_range l1[i] l0.length (by omega)).2; omega
          obtain ⟨ad, A2, c2, rfl, hx0, hle, hC⟩ := at_rows HR0.out q hql
          have hx0 := below_cs HB.out hx0
          have hps : l0[q]? = some l0[q] := List.getElem?_eq_getElem hql
          obtain ⟨ps, hps2⟩ : ∃ ps, ps = l0[q] := ⟨_, rfl⟩
          obtain ⟨y, hy⟩ : ∃ y, y = l1[i] := ⟨_, rfl⟩
          rw [← hps2] at hx0 hC hps
          rw [← hy] at hy0 hq
          have HQ := Aside0.mk hq.symm
          have HPUT := Aside0.mk (ordPut wr gs W.heap.size n _ l0 H.out hn (by omega) HF.out (fun k hk => HV.out.lt k hk) HB.out.size q A2 ps hps c2 (Kd.C_below hC HB.out))
          have hq0 : (0 : Int) ≤ q := by omega
          have hq1 : (q : Int) < l0.length := by omega
          clear hps hps2 hy hq hC hle
          go_wp2_with fail
          refine (low y l0.length _ (by omega) (by omega)).mono ?_
          rintro e wr ⟨rfl, rfl⟩
          rw [HQ.out]
          go_wp2_with fail
          refine (ordNext wr gs _ n _ l0 H.out hn).mono ?_
          rintro e wr ⟨rfl, rfl⟩
          go_wp2_with fail
          refine HPUT.out.mono ?_
          rintro e w3 ⟨n', rfl, HN, HLE, h3, hc3⟩
          have H3 := Aside0.mk h3
          have HV3 := Aside0.mk (HV.out.ch flat_pair hc3 (fun k hk h => h.2 hk))
          have HB3 := Aside0.mk (Below.ch HB.out hc3 HB.out.size (fun k hk => hk.1))
          clear h3 hc3
          have hle' := HLE.out
          have hor : ((n' : Int) != (n : Int)) = true ∧ ((n' : Int) != (n : Int) + 1) = false ∧ ((q : Int) != (n : Int)) = false ∧ ((n' : Int) == (n : Int)) = false ∨ ((n' : Int) != (n : Int)) = false ∧ ((n' : Int) == (n : Int)) = true ∧ ((q : Int) == (n : Int)) = false := by
            rcases HN.out with ⟨h1, h2⟩ | ⟨h1, h2⟩
            · refine .inl ⟨bne_iff_ne.2 (by omega), ?_, ?_, ?_⟩
              · rw [h2]; simp
              · rw [h1]; simp
              · rw [beq_eq_false_iff_ne]; omega
            · refine .inr ⟨?_, ?_, ?_⟩
              · rw [h2]; simp
              · rw [h2]; simp
              · rw [beq_eq_false_iff_ne]; omega
          rcases hor with ⟨q1, q2, q3, q4⟩ | ⟨q1, q2, q3⟩
          all_goals
            go_wp2_with fail
            go_roundg (l1.length - (i + 1))
            case measure => omega
            case rel => exact ⟨i + 1, n', by omega, by go_num, hle', H3, HV3, HB3⟩
        · have hor : ¬ (i : Int) < l1.length ∨ ((i : Int) < l1.length ∧ ¬ (0 : Int) < l0.length) := by omega
          clear hgo
          have HFIN : Aside0 (∃ j : Nat, j = 0 ∧ min j l0.length ≤ n) := ⟨⟨0, rfl, by omega⟩⟩
          rcases hor with hor | ⟨hor1, hor2⟩
          all_goals
            go_wp2_with fail
            go_loopg [12, 13] l0.length (fun kq v12 v13 w' => ∃ (i n : Nat), i + kq = l0.length ∧ v12 = .int .i64 i ∧ n ≤ l0.length ∧ i ≤ n ∧ Aside0 (OrdS w' gs W.heap.size (fun k => (Value.slice AX X.length cX).ownBlock = some k) l0 n) ∧ Aside0 (Own kPair 80 w' W.heap.size (.slice AX X.length cX) X) ∧ Aside0 (Below W.heap.size W w'))
            case atStart => exact ⟨0, n, by omega, rfl, hn, Nat.zero_le _, H, HV, HB⟩
            case round =>
              clear H HV HB HFIN
              try clear hor
              try clear hor1 hor2
              clear hn
              obtain ⟨i, n, hi, rfl, hn, hin, H, HV, HB⟩ := hrel
              obtain ⟨wo, rfl⟩ : ∃ wo : World, wo = wr := ⟨_, rfl⟩
              by_cases hlt : i < l0.length
              · go_wp2_with fail
                go_loopg [13] l0.length (fun kq v13 w' => ∃ (n2 : Nat), n2 ≤ l0.length ∧ ((∃ k : Nat, v13 = .int .i64 k ∧ k + 1 = kq ∧ k < l0.length ∧ (n ≤ k → n2 = n) ∧ (k < n → n2 = min (n + 1) l0.length)) ∨ (v13 = .int .i64 (-1) ∧ kq = 0 ∧ n2 = min (n + 1) l0.length)) ∧ Aside0 (OrdS w' gs W.heap.size (fun k => (Value.slice AX X.length cX).ownBlock = some k) l0 n2) ∧ Aside0 (Own kPair 80 w' W.heap.size (.slice AX X.length cX) X) ∧ Aside0 (Below W.heap.size W w'))
                case atStart => exact ⟨n, hn, .inl ⟨l0.length - 1, congrArg _ (by omega), by omega, by omega, fun _ => rfl, fun _ => by omega⟩, H, HV, HB⟩
                case round =>
                  clear H HV HB
                  obtain ⟨n2, hn2, hst, H, HV, HB⟩ := hrel
                  rcases hst with ⟨q, rfl, hq1, hql, hs1, hs2⟩ | ⟨rfl, hq1, hs1⟩
                  · obtain ⟨ad, A2, c2, rfl, hx0, hle, hC⟩ := at_rows HR0.out q hql
                    have hx0 := below_cs HB.out hx0
                    have hps : l0[q]? = some l0[q] := List.getElem?_eq_getElem hql
                    obtain ⟨ps, hps2⟩ : ∃ ps, ps = l0[q] := ⟨_, rfl⟩
                    rw [← hps2] at hx0 hC hps
                    have HPUT := Aside0.mk (ordPut wr gs W.heap.size n2 _ l0 H.out hn2 (by omega) HF.out (fun k hk => HV.out.lt k hk) HB.out.size q A2 ps hps c2 (Kd.C_below hC HB.out))
                    have hq0 : (0 : Int) ≤ q := by omega
                    have hq2 : (q : Int) < l0.length := by omega
                    have HS1 := Aside0.mk hs1
                    have HS2 := Aside0.mk hs2
                    clear hps hps2 hC hle hs1 hs2
                    go_wp2_with fail
                    refine HPUT.out.mono ?_
                    rintro e w3 ⟨n', rfl, HN, HLE, h3, hc3⟩
                    have H3 := Aside0.mk h3
                    have HV3 := Aside0.mk (HV.out.ch flat_pair hc3 (fun k hk h => h.2 hk))
                    have HB3 := Aside0.mk (Below.ch HB.out hc3 HB.out.size (fun k hk => hk.1))
                    clear h3 hc3
                    go_wp2_with fail
                    go_roundg (gk - 1)
                    case measure => omega
                    case rel =>
                      have h1 := HS1.out
                      have h2 := HS2.out
                      have h3 := HN.out
                      refine ⟨n', HLE.out, ?_, H3, HV3, HB3⟩
                      rcases Nat.eq_zero_or_pos q with h0 | h0
                      · exact .inr ⟨congrArg _ (by omega), by omega, by omega⟩
                      · exact .inl ⟨q - 1, congrArg _ (by omega), by omega, by omega, by omega, by omega⟩
                  · go_wp2_with fail
                    go_roundg (l0.length - (i + 1))
                    case measure => omega
                    case rel => exact ⟨i + 1, n2, by omega, by go_num, hn2, by omega, H, HV, HB⟩
              · have hnl : n = l0.length := by omega
                subst hnl
                clear hi hin
                go_wp2_with fail
                refine (ordTake wo gs _ l0.length _ l0 H.out rfl (by have := HFL.out; omega)).mono ?_
                rintro e w2 ⟨v2, Y, rfl, hv2, HY, hb2⟩
                have hY : Y = X := by rw [HY.out, HXX.out]
                subst hY
                obtain ⟨A2, c2, rfl, hle2, _⟩ := hv2.reads
                have H2 := Aside0.mk (H.out.below hb2)
                have HV2 := Aside0.mk (HV.out.below hb2)
                have HU2 := Aside0.mk hv2
                have HB2 := Aside0.mk (two_ands _ _ _ HB.out hb2)
                clear hv2 hb2 hle2 HY HXX
                go_wp2_with fail
                refine (samePairs A2 c2 Y AX cX Y w2 HU2.out.is.2.2 HV2.out.is.2.2 true (by simp)).mono ?_
                rintro e w3 ⟨rfl, hb3⟩
                have H3 := Aside0.mk (H2.out.below hb3)
                have HB3 := Aside0.mk (two_ands _ _ _ HB2.out hb3)
                clear hb3
                go_wp2_with fail
                refine (ordNext1 w3 gs _ _ _ _ H3.out).mono ?_
                rintro e w3 ⟨rfl, rfl⟩
                go_wp2_with fail
                refine (awake18 w3).mono ?_
                rintro e w4 ⟨rfl, hb4⟩
                have HB4 := Aside0.mk (two_ands _ _ _ HB3.out hb4)
                clear hb4
                go_wp2_with fail
                go_ret
                exact ⟨rfl, HB4.out⟩
end Go.Proofs.Ytckjgfbfjjiikaa.K
