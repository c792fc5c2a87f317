/- The statement StageDrops. -/
import Derived.Test.YtckjgfbfjjiikaaS9
import Derived.Deep.QuietTactic
import Derived.BigQuiet
set_option linter.unusedVariables false
set_option linter.unusedSimpArgs false
set_option maxRecDepth 100000
namespace Go.Proofs.Ytckjgfbfjjiikaa.K
open Go.RowKit Go.Proofs.YtckjgfbfjjiikaaW.PrintWords Go.Proofs.YtckjgfbfjjiikaaW.PrintLast Go.Proofs.YtckjgfbfjjiikaaW.PrintMore Go.Proofs.Ytckjgfbfjjiikaa.U Go.Proofs.Ytckjgfbfjjiikaa.T

theorem nodup_sub : ∀ (l m : List (Int × Int)), l.Nodup → (∀ x ∈ l, x ∈ m) → l.length ≤ m.length
  | [], m, _, _ => Nat.zero_le _
  | x :: l, m, hn, hs => by
    have h1 := hs x (List.mem_cons_self ..)
    have h2 := nodup_sub l (m.erase x) (List.nodup_cons.1 hn).2 (fun y hy => by
      have h3 : y ≠ x := by rintro rfl; exact (List.nodup_cons.1 hn).1 hy
      exact (List.mem_erase_of_ne h3).2 (hs y (List.mem_cons_of_mem _ hy)))
    rw [List.length_erase_of_mem h1] at h2
    have h4 := List.length_pos_of_mem h1
    rw [List.length_cons]
    omega
theorem nodup_len (l m : List (Int × Int)) (hl : l.Nodup) (hm : m.Nodup) (h : ∀ x, x ∈ l ↔ x ∈ m) : l.length = m.length :=
  Nat.le_antisymm (nodup_sub l m hl (fun x hx => (h x).1 hx)) (nodup_sub m l hm (fun x hx => (h x).2 hx))
/-- All attempts. -/
def allP : List (Int × Int) := [(0, 1), (0, 2), (0, 3), (1, 1), (1, 2), (1, 3), (2, 1), (2, 2), (2, 3), (3, 1), (3, 2), (3, 3), (4, 1), (4, 2), (4, 3), (5, 1), (5, 2), (5, 3)]
theorem allP_at (i a : Nat) (hi : i < 6) (ha : a < 3) : allP[i * 3 + a]? = some ((i : Int), (a : Int) + 1) := by
  have : ∀ i : Fin 6, ∀ a : Fin 3, allP[i.val * 3 + a.val]? = some ((i.val : Int), (a.val : Int) + 1) := by decide
  exact this ⟨i, hi⟩ ⟨a, ha⟩
theorem allP_rng : ∀ p ∈ allP, 0 ≤ p.1 ∧ p.1 < 6 ∧ 1 ≤ p.2 ∧ p.2 ≤ 3 := by decide
theorem allP_mem (p : Int × Int) : p ∈ allP ↔ 0 ≤ p.1 ∧ p.1 < 6 ∧ 1 ≤ p.2 ∧ p.2 ≤ 3 := by
  refine ⟨allP_rng p, ?_⟩
  obtain ⟨a, b⟩ := p
  rintro ⟨h1, h2, h3, h4⟩
  obtain ⟨i, rfl⟩ : ∃ i : Nat, a = i := ⟨a.toNat, by simp only at h1; omega⟩
  obtain ⟨j, rfl⟩ : ∃ j : Nat, b = (j : Int) + 1 := ⟨(b - 1).toNat, by simp only at h3; omega⟩
  simp only at h2 h4
  exact List.mem_of_getElem? (allP_at i j (by omega) (by omega))
theorem allP_len : allP.length = 18 := rfl
def some1 (M : Int → Int → List (List PairD)) (p : Int × Int) : Bool := !(M p.1 p.2).isEmpty
def cntA (M : Int → Int → List (List PairD)) (k : Nat) : Nat := ((allP.take k).filter (some1 M)).length
def cntS (M : Int → Int → List (List PairD)) (s : Int) (k : Nat) : Nat := ((allP.take k).filter (fun p => some1 M p && p.1 == s)).length
theorem some1_iff (M : Int → Int → List (List PairD)) (a b : Int) : some1 M (a, b) = true ↔ 0 < (M a b).length := by
  unfold some1
  cases h : M a b <;> simp
theorem cntA_step (M : Int → Int → List (List PairD)) (i a : Nat) (hi : i < 6) (ha : a < 3) : cntA M (i * 3 + a + 1) = cntA M (i * 3 + a) + if 0 < (M i (a + 1)).length then 1 else 0 := by
  unfold cntA
  rw [List.take_add_one, allP_at i a hi ha, List.filter_append, List.length_append]
  have h := some1_iff M i (a + 1)
  by_cases hp : 0 < (M i (a + 1)).length
  · rw [if_pos hp]; simp [List.filter_cons, h.2 hp]
  · rw [if_neg hp]
    have h2 : some1 M ((i : Int), (a : Int) + 1) = false := Bool.eq_false_iff.2 (fun e => hp (h.1 e))
    simp [List.filter_cons, h2]
theorem cntS_step (M : Int → Int → List (List PairD)) (s : Int) (i a : Nat) (hi : i < 6) (ha : a < 3) : cntS M s (i * 3 + a + 1) = cntS M s (i * 3 + a) + if 0 < (M i (a + 1)).length ∧ (i : Int) = s then 1 else 0 := by
  unfold cntS
  rw [List.take_add_one, allP_at i a hi ha, List.filter_append, List.length_append]
  have h := some1_iff M i (a + 1)
  by_cases hp : 0 < (M i (a + 1)).length
  · by_cases hs : (i : Int) = s
    · subst hs
      rw [if_pos ⟨hp, rfl⟩]; simp [List.filter_cons, h.2 hp]
    · rw [if_neg (fun h => hs h.2)]; simp [List.filter_cons, h.2 hp, hs]
  · rw [if_neg (fun h => hp h.1)]
    have h2 : some1 M ((i : Int), (a : Int) + 1) = false := Bool.eq_false_iff.2 (fun e => hp (h.1 e))
    simp [List.filter_cons, h2]
theorem cntA_le (M : Int → Int → List (List PairD)) (k : Nat) : cntA M k ≤ 18 := Nat.le_trans (List.length_filter_le _ _) (by rw [List.length_take, allP_len]; omega)
theorem cntS_le (M : Int → Int → List (List PairD)) (s : Int) (k : Nat) : cntS M s k ≤ 18 := Nat.le_trans (List.length_filter_le _ _) (by rw [List.length_take, allP_len]; omega)
theorem allP_nodup : allP.Nodup := by decide
theorem cntA_all {ks : List (Int × Int)} {M : Int → Int → List (List PairD)} (h : MOk ks M) : cntA M 18 = ks.length := by
  unfold cntA
  rw [List.take_of_length_le (by rw [allP_len]; omega)]
  refine nodup_len _ _ (allP_nodup.sublist List.filter_sublist) h.nd (fun p => ?_)
  obtain ⟨a, b⟩ := p
  rw [List.mem_filter, h.mem, allP_mem, some1_iff]
  constructor
  · rintro ⟨_, h2⟩ h3; rw [h3] at h2; exact absurd h2 (by simp)
  · intro h2; exact ⟨h.rng _ ((h.mem a b).2 h2), List.length_pos_iff.2 h2⟩
theorem cntS_all {ks : List (Int × Int)} {M : Int → Int → List (List PairD)} (h : MOk ks M) (s : Int) : cntS M s 18 = ks.length - (dropK ks s).length := by
  have h1 : cntS M s 18 = (ks.filter (fun p => p.1 == s)).length := by
    unfold cntS
    rw [List.take_of_length_le (by rw [allP_len]; omega)]
    refine nodup_len _ _ (allP_nodup.sublist List.filter_sublist) (h.nd.sublist List.filter_sublist) (fun p => ?_)
    obtain ⟨a, b⟩ := p
    rw [List.mem_filter, List.mem_filter, h.mem, allP_mem, Bool.and_eq_true, some1_iff]
    constructor
    · rintro ⟨_, h2, h4⟩
      exact ⟨fun h3 => by rw [h3] at h2; exact absurd h2 (by simp), h4⟩
    · rintro ⟨h2, h4⟩; exact ⟨h.rng _ ((h.mem a b).2 h2), List.length_pos_iff.2 h2, h4⟩
  have h2 : ks.length = (ks.filter (fun p => p.1 == s)).length + (dropK ks s).length := by
    unfold dropK
    generalize ks = l
    induction l with
    | nil => rfl
    | cons a l ih => by_cases h : a.1 = s <;> simp [h] at * <;> omega
  omega
theorem dropK_twice (ks : List (Int × Int)) (s : Int) : dropK (dropK ks s) s = dropK ks s := by
  unfold dropK
  rw [List.filter_filter]
  apply List.filter_congr
  intro x _
  cases (x.1 != s) <;> rfl
theorem dropM_twice (M : Int → Int → List (List PairD)) (s : Int) : dropM (dropM M s) s = dropM M s := by
  funext a b
  unfold dropM
  split <;> rfl

/-- The counts that were read: row i, place a. -/
def NextC (M : Int → Int → List (List PairD)) (C : List Int) (k : Nat) : Prop := C.length = 24 ∧ ∀ i a : Nat, i < 6 → a < 3 → i * 3 + a < k → C.getD (i * 4 + (a + 1)) 0 = ((M i (a + 1)).length : Nat)
theorem NextC.set {M : Int → Int → List (List PairD)} {C : List Int} {i a : Nat} (h : NextC M C (i * 3 + a)) (hi : i < 6) (ha : a < 3) : NextC M (C.set (i * 4 + (a + 1)) ((M i (a + 1)).length : Nat)) (i * 3 + a + 1) := by
  refine ⟨by rw [List.length_set]; exact h.1, fun j b hj hb hlt => ?_⟩
  have hl := h.1
  simp only [List.getD_eq_getElem?_getD, List.getElem?_set]
  by_cases he : i * 4 + (a + 1) = j * 4 + (b + 1)
  · obtain rfl : i = j := by omega
    obtain rfl : a = b := by omega
    rw [if_pos rfl, if_pos (by omega)]
    rfl
  · rw [if_neg he]
    have := h.2 j b hj hb (by omega)
    rwa [List.getD_eq_getElem?_getD] at this
theorem cell24 {w : World} {g j : Nat} {cs : List Int} {t : TypeId} {fr : Nat × Nat} (h : w.heap[g]? = some (.cells (nums .i64 cs).toArray t fr)) (hj : j < cs.length) : w.cell? ⟨g, j, none⟩ = some (.int .i64 (cs.getD j 0)) := by
  rw [cell_of_blk h]
  simp [nums, List.getD_eq_getElem?_getD, hj]
set_option maxHeartbeats 3200000 in
theorem stageDrops_walk (W : World) (A0 : Option Addr) (c0 : Nat) (l0 : List SActD) (hr0 : Kd.C kSAct W A0 l0.length l0) (hc0 : l0.length ≤ c0) (hg0 : ∀ x ∈ l0, GSAct x) (split : Int) (w1' : (Lit.int .i64 split).wf = true) :
    Calls Try.prog 8 #[.slice A0 l0.length c0, .int .i64 split] W fun e w' => e = .returned (.bool true) ∧ Below W.heap.size W w' := by
  have hm0 := Kd.C_max hr0
  have HR0 := Aside0.mk hr0
  have HG0 := Aside0.mk hg0
  clear hr0 hg0 w1'
  have hua := Try.underlying47
  go_enter Try.func8, Try.ntmps8
  go_wp2_with fail
  refine (great18 A0 c0 l0 60 W HR0.out HG0.out).mono ?_
  rintro e w1 ⟨⟨r, rfl, hr⟩, hb1⟩
  have HB1 := Aside0.mk hb1
  clear hb1
  cases r with
  | true =>
    clear hr
    go_wp2_with fail
    refine (awake18 w1).mono ?_
    rintro e w3 ⟨rfl, hb3⟩
    have HB3 := Aside0.mk (two_ands _ _ _ HB1.out hb3)
    clear hb3
    go_wp2_with fail
    go_ret
    exact ⟨rfl, HB3.out⟩
  | false =>
    have HL := Aside0.mk (hr rfl).2
    have hl60 := (hr rfl).1
    clear hr
    obtain ⟨s0, hs0⟩ : ∃ q, q = lowN split 6 := ⟨_, rfl⟩
    have rs : 0 ≤ s0 ∧ s0 < 6 := by rw [hs0]; exact lowN_range _ _ (by omega)
    obtain ⟨rs0, rs1⟩ := rs
    have HS0 := Aside0.mk hs0
    clear hs0
    go_wp2_with fail
    refine (low split 6 _ (by omega) (by omega)).mono ?_
    rintro e w1' ⟨rfl, rfl⟩
    rw [← HS0.out]
    go_wp2_with fail
    refine (staNew _ (fun _ => False) (fun _ h => h.elim) W.heap.size HB1.out.size).mono ?_
    rintro e w2 ⟨gs, rfl, h2, hb2⟩
    have HB2 := Aside0.mk (two_ands _ _ _ HB1.out hb2)
    obtain ⟨gN, hgN⟩ : ∃ g, g = w2.heap.size := ⟨_, rfl⟩
    obtain ⟨w3, hw3⟩ : ∃ w, w = w2.alloc (.cells #[.int .i64 0, .int .i64 0, .int .i64 0, .int .i64 0, .int .i64 0, .int .i64 0, .int .i64 0, .int .i64 0, .int .i64 0, .int .i64 0, .int .i64 0, .int .i64 0, .int .i64 0, .int .i64 0, .int .i64 0, .int .i64 0, .int .i64 0, .int .i64 0, .int .i64 0, .int .i64 0, .int .i64 0, .int .i64 0, .int .i64 0, .int .i64 0] 59) := ⟨_, rfl⟩
    have hbN : w3.heap[gN]? = some (.cells (nums .i64 (List.replicate 24 0)).toArray 59 (0, 0)) := by rw [hw3, hgN]; exact alloc_at w2 _
    have hba := (Below.refl w2.heap.size w2).alloc (Nat.le_refl _) (.cells #[.int .i64 0, .int .i64 0, .int .i64 0, .int .i64 0, .int .i64 0, .int .i64 0, .int .i64 0, .int .i64 0, .int .i64 0, .int .i64 0, .int .i64 0, .int .i64 0, .int .i64 0, .int .i64 0, .int .i64 0, .int .i64 0, .int .i64 0, .int .i64 0, .int .i64 0, .int .i64 0, .int .i64 0, .int .i64 0, .int .i64 0, .int .i64 0] 59)
    rw [← hw3] at hba
    have H3 : Aside0 (Sta w3 gs W.heap.size (fun k => k = gN) [] (fun _ _ => [])) := ⟨Sta.ch (S := fun _ => False) h2 (Ch.of_below hba _) (fun _ h => h.elim) (fun k hk => .inr (by omega))⟩
    have HB3 := Aside0.mk (two_ands _ _ _ HB2.out hba)
    have HGB : Aside0 (W.heap.size ≤ gN) := ⟨by rw [hgN]; exact HB2.out.size⟩
    have HBN := Aside0.mk hbN
    have HW3 := Aside0.mk hw3
    have HGN := Aside0.mk hgN
    clear h2 hb2 hgN hw3 hbN hba
    go_upto_region 8 with (fail)
    rw [← HGN.out, ← HW3.out]
    go_wp2_with fail
    go_loopg [7] l0.length (fun kq v7 w' => ∃ (k : Nat) (ks : List (Int × Int)) (M : Int → Int → List (List PairD)), k + kq = l0.length ∧ v7 = .int .i64 k ∧ Aside0 (Sta w' gs W.heap.size (fun k => k = gN) ks M) ∧ Aside0 (MOk ks M) ∧ Aside0 (w'.heap[gN]? = some (.cells (nums .i64 (List.replicate 24 0)).toArray 59 (0, 0))) ∧ Aside0 (Below W.heap.size W w'))
    case atStart => exact ⟨0, [], fun _ _ => [], by omega, rfl, H3, ⟨MOk.none⟩, HBN, HB3⟩
    case round =>
      clear H3 HB3 HB2 HB1 HW3 HGN HBN
      obtain ⟨k, ks, M, hk, rfl, H, HM, HBN, HB⟩ := hrel
      by_cases hlt : k < l0.length
      · obtain ⟨ad, A1, c1, rfl, hx0, hx1, hx2, hx3, hx4, hle, hC⟩ := at_sact HR0.out k hlt
        have hbd : Below W.heap.size W wr.drew := below_drew1 HB.out
        have hpl := HL.out _ (List.getElem_mem hlt)
        obtain ⟨x, hx⟩ : ∃ x, x = l0[k] := ⟨_, rfl⟩
        rw [← hx] at hx1 hx2 hx3 hx4 hC hpl
        clear hx hle hx0
        obtain ⟨act, sp, at', sq, ps⟩ := x
        have hpl : ps.length ≤ 20 := hpl
        have hHd := H.out.below (below_drew1 (Below.refl _ _))
        have HPUT := Aside0.mk (staPut wr.drew gs W.heap.size _ ks M hHd (fun k hk => by rw [hk]; exact blk_lt' HBN.out) hbd.size sp at' sq A1 ps c1 (Kd.C_below hC hbd) (by omega))
        have HMP := Aside0.mk (HM.out.put sp at' sq ps hpl)
        have HBD := Aside0.mk hbd
        have HZ : Aside0 (∀ w', Below W.heap.size W w' → w'.cell? ⟨(ad.add (k * 5)).block, (ad.add (k * 5)).off + 1, none⟩ = some (.int .i64 sp) ∧ w'.cell? ⟨(ad.add (k * 5)).block, (ad.add (k * 5)).off + 2, none⟩ = some (.int .i64 at') ∧ w'.cell? ⟨(ad.add (k * 5)).block, (ad.add (k * 5)).off + 3, none⟩ = some (.int .i64 sq) ∧ w'.cell? ⟨(ad.add (k * 5)).block, (ad.add (k * 5)).off + 4, none⟩ = some (.slice A1 ps.length c1)) := ⟨fun w' hb => ⟨below_cs hb hx1, below_cs hb hx2, below_cs hb hx3, below_cs hb hx4⟩⟩
        have hy := HZ.out _ hbd
        have HY := Aside0.mk hy
        have hk0 : (0 : Int) ≤ k := by omega
        have hk1 : (k : Int) < l0.length := by omega
        clear hHd hbd hC hx1 hx2 hx3 hx4 hy
        go_wp2_with fail
        go_region_held3 (fun w' => w'.cell? ⟨(ad.add (k * 5)).block, (ad.add (k * 5)).off + 1, none⟩ = some (.int .i64 sp) ∧ w'.cell? ⟨(ad.add (k * 5)).block, (ad.add (k * 5)).off + 2, none⟩ = some (.int .i64 at') ∧ w'.cell? ⟨(ad.add (k * 5)).block, (ad.add (k * 5)).off + 3, none⟩ = some (.int .i64 sq) ∧ w'.cell? ⟨(ad.add (k * 5)).block, (ad.add (k * 5)).off + 4, none⟩ = some (.slice A1 ps.length c1)) (first | exact HY.out | exact HY3.out)
         (first | (go_at_call 29; refine HPUT.out.mono ?_; rintro e w3 ⟨rfl, h3, hc3⟩; have HB3 := Aside0.mk (Below.ch HBD.out hc3 HBD.out.size (fun k hk => hk.1)); have HY3 := Aside0.mk (HZ.out _ HB3.out); have HBN3 := Aside0.mk (hc3.blk (show wr.drew.heap[gN]? = _ from HBN.out) (fun h => h.2 rfl)); have H3 := Aside0.mk h3; clear h3 hc3))
        go_wp2_with fail
        go_roundg (l0.length - (k + 1))
        case measure => omega
        case rel => exact ⟨k + 1, _, _, by omega, by go_num, H3, HMP, HBN3, HB3⟩
      · obtain ⟨w0, rfl⟩ : ∃ w0 : World, w0 = wr := ⟨_, rfl⟩
        clear hk
        go_wp2_with fail
        go_loopg [8, 9, 10, 11] 6 (fun kq v8 v9 v10 v11 w' => ∃ (i nS nA : Nat) (C : List Int), i + kq = 6 ∧ v8 = .int .i64 nS ∧ v9 = .int .i64 nA ∧ v10 = .int .i64 i ∧ Aside0 (nS = cntS M s0 (i * 3)) ∧ Aside0 (nA = cntA M (i * 3)) ∧ Aside0 (NextC M C (i * 3)) ∧ Aside0 (w'.heap[gN]? = some (.cells (nums .i64 C).toArray 59 (0, 0))) ∧ Aside0 (Ch w0 w' (fun k => k = gN)))
        case atStart => exact ⟨0, 0, 0, _, rfl, rfl, rfl, rfl, ⟨rfl⟩, ⟨rfl⟩, ⟨by simp, fun i a _ _ h => by omega⟩, HBN, ⟨Ch.refl _ _⟩⟩
        case round =>
          obtain ⟨i, nS, nA, C, hi, rfl, rfl, rfl, HNS, HNA, HNC, HBN2, HC⟩ := hrel
          obtain ⟨w1, rfl⟩ : ∃ w1 : World, w1 = wr := ⟨_, rfl⟩
          by_cases hi6 : i < 6
          · have hi6' : (i : Int) < 6 := by omega
            go_wp2_with fail
            go_loopg [8, 9, 11] 3 (fun kq v8 v9 v11 w' => ∃ (a nS nA : Nat) (C : List Int), a + 1 + kq = 4 ∧ v8 = .int .i64 nS ∧ v9 = .int .i64 nA ∧ v11 = .int .i64 (a + 1 : Nat) ∧ Aside0 (nS = cntS M s0 (i * 3 + a)) ∧ Aside0 (nA = cntA M (i * 3 + a)) ∧ Aside0 (NextC M C (i * 3 + a)) ∧ Aside0 (w'.heap[gN]? = some (.cells (nums .i64 C).toArray 59 (0, 0))) ∧ Aside0 (Ch w0 w' (fun k => k = gN)))
            case atStart => exact ⟨0, nS, nA, C, by omega, rfl, rfl, rfl, HNS, HNA, HNC, HBN2, HC⟩
            case round =>
              clear HNS HNA HNC HBN2 HC
              obtain ⟨a, nS, nA, C, ha, rfl, rfl, rfl, HNS, HNA, HNC, HBN2, HC⟩ := hrel
              have hnS : nS ≤ 18 := by rw [HNS.out]; exact cntS_le _ _ _
              have hnA : nA ≤ 18 := by rw [HNA.out]; exact cntA_le _ _
              obtain ⟨b, hb⟩ : ∃ b, b = a + 1 := ⟨_, rfl⟩
              rw [← hb]
              have HBA := Aside0.mk hb
              by_cases ha3 : a < 3
              · have hb3 : b ≤ 3 := by omega
                have hb1 : 1 ≤ b := by omega
                have hi0 : (0 : Int) ≤ i := by omega
                have hi1 : (i : Int) < 6 := by omega
                have hb0 : (0 : Int) ≤ b := by omega
                have hb4 : (b : Int) < 4 := by omega
                clear hb
                have hSd : Sta wr.drew gs W.heap.size (fun k => k = gN) ks M := (Sta.ch H.out HC.out (fun k hk _ => .inl hk) (fun k hk => .inl hk)).below (below_drew1 (Below.refl _ _))
                obtain ⟨m, hm⟩ : ∃ m, m = (M i b).length := ⟨_, rfl⟩
                have HNX : Aside0 (Calls Try.prog 39 #[.pointer (some ⟨gs, 0, none⟩), .int .i64 i, .int .i64 b] wr.drew fun e w' => e = .returned (.int .i64 m) ∧ w' = wr.drew) := ⟨by rw [hm]; exact staNext wr.drew gs W.heap.size _ ks M hSd i b⟩
                have hcd : wr.drew.cell? ⟨gN, i * 4 + b, none⟩ = some (.int .i64 (C.getD (i * 4 + b) 0)) := cell24 (w := wr.drew) HBN2.out (by rw [HNC.out.1]; omega)
                have hfd : wr.drew.frozen? ⟨gN, i * 4 + b, none⟩ = false := frozen_of_blk (w := wr.drew) HBN2.out
                obtain ⟨old, hold⟩ : ∃ old, old = C.getD (i * 4 + b) 0 := ⟨_, rfl⟩
                rw [← hold] at hcd
                have hset := setCell_blk (w := wr) (j := i * 4 + b) HBN2.out (.int .i64 m)
                rw [show (nums .i64 C).set (i * 4 + b) (.int .i64 m) = nums .i64 (C.set (i * 4 + b) (m : Int)) from by simp [nums, List.map_set]] at hset
                have hch := ((Ch.refl wr (fun k => k = gN)).setCell ⟨gN, i * 4 + b, none⟩ (.int .i64 m) rfl).trans (Ch.of_below (below_drew1 (Below.refl _ _)) (fun k => k = gN)) (fun _ _ h => h)
                obtain ⟨w5, hw5⟩ : ∃ w5, w5 = (wr.setCell ⟨gN, i * 4 + b, none⟩ (.int .i64 m)).drew := ⟨_, rfl⟩
                have hset : w5.heap[gN]? = some (.cells (nums .i64 (C.set (i * 4 + b) (m : Int))).toArray 59 (0, 0)) := by rw [hw5]; exact hset
                rw [← hw5] at hch
                have hcell5 : w5.cell? ⟨gN, i * 4 + b, none⟩ = some (.int .i64 m) := by rw [hw5]; exact World.cell?_setCell_same wr _ _ hcd
                have HC5 := Aside0.mk (HC.out.trans hch (fun _ _ h => h))
                have HBN5 := Aside0.mk hset
                have HNC5 : Aside0 (NextC M (C.set (i * 4 + b) (m : Int)) (i * 3 + (a + 1))) := ⟨by have := HNC.out.set (by omega) ha3; rw [HBA.out, hm, HBA.out]; exact this⟩
                have HMM : Aside0 (m = (M i (a + 1)).length) := ⟨by rw [hm, HBA.out]; rfl⟩
                have HW5 := Aside0.mk hw5
                clear hSd hm hold hset hch hw5
                go_wp2_with fail
                go_region_held3 (fun w' => True) (exact trivial)
                 (first | (go_at_call 39; refine HNX.out.mono ?_; rintro e w9 ⟨rfl, rfl⟩))
                go_upto_region 20 with (fail)
                rw [← HW5.out]
                clear hcd hfd
                by_cases hm0 : 0 < m
                · by_cases his : (i : Int) = s0
                  · have q1 : ((i : Int) == s0) = true := by simpa using his
                    have HIS := Aside0.mk his
                    clear his
                    go_wp2_with fail
                    go_roundg (2 - a)
                    case measure => omega
                    case rel => exact ⟨a + 1, nS + 1, nA + 1, _, by omega, by go_num, by go_num, congrArg _ (by have := HBA.out; omega), ⟨by rw [← Nat.add_assoc, cntS_step M s0 i a (by omega) ha3, if_pos ⟨by have := HMM.out; omega, HIS.out⟩, ← HNS.out]⟩, ⟨by rw [← Nat.add_assoc, cntA_step M i a (by omega) ha3, if_pos (by have := HMM.out; omega), ← HNA.out]⟩, HNC5, HBN5, HC5⟩
                  · have q1 : ((i : Int) == s0) = false := by simpa using his
                    have HIS := Aside0.mk his
                    clear his
                    go_wp2_with fail
                    go_roundg (2 - a)
                    case measure => omega
                    case rel => exact ⟨a + 1, nS, nA + 1, _, by omega, rfl, by go_num, congrArg _ (by have := HBA.out; omega), ⟨by rw [← Nat.add_assoc, cntS_step M s0 i a (by omega) ha3, if_neg (fun h => HIS.out h.2), ← HNS.out]; rfl⟩, ⟨by rw [← Nat.add_assoc, cntA_step M i a (by omega) ha3, if_pos (by have := HMM.out; omega), ← HNA.out]⟩, HNC5, HBN5, HC5⟩
                · obtain rfl : m = 0 := by omega
                  go_wp2_with fail
                  go_roundg (2 - a)
                  case measure => omega
                  case rel => exact ⟨a + 1, nS, nA, _, by omega, rfl, rfl, congrArg _ (by have := HBA.out; omega), ⟨by rw [← Nat.add_assoc, cntS_step M s0 i a (by omega) ha3, if_neg (fun h => by have := HMM.out; omega), ← HNS.out]; rfl⟩, ⟨by rw [← Nat.add_assoc, cntA_step M i a (by omega) ha3, if_neg (by have := HMM.out; omega), ← HNA.out]; rfl⟩, HNC5, HBN5, HC5⟩
              · have hb4 : b = 4 := by omega
                clear hb ha
                subst hb4
                have ha' : a = 3 := by have := HBA.out; omega
                have e3 : i * 3 + a = (i + 1) * 3 := by omega
                have HNS' : Aside0 (nS = cntS M s0 ((i + 1) * 3)) := ⟨by rw [← e3]; exact HNS.out⟩
                have HNA' : Aside0 (nA = cntA M ((i + 1) * 3)) := ⟨by rw [← e3]; exact HNA.out⟩
                have HNC' : Aside0 (NextC M C ((i + 1) * 3)) := ⟨by rw [← e3]; exact HNC.out⟩
                clear e3 ha'
                go_wp2_with fail
                go_roundg (5 - i)
                case measure => omega
                case rel => exact ⟨i + 1, nS, nA, C, by omega, rfl, rfl, by go_num, HNS', HNA', HNC', HBN2, HC⟩
          · have hi' : i = 6 := by omega
            subst hi'
            have hnA : nA = ks.length := by rw [HNA.out]; exact cntA_all HM.out
            have hnS : nS = ks.length - (dropK ks s0).length := by rw [HNS.out]; exact cntS_all HM.out s0
            have hk18 := HM.out.most
            have hdl : (dropK ks s0).length ≤ ks.length := List.length_filter_le _ _
            have HE1 : Aside0 (((ks.length : Int) - (dropK ks s0).length) = nS) := ⟨by omega⟩
            have HE2 : Aside0 ((((dropK ks s0).length : Nat) : Int) = (nA : Int) - nS) := ⟨by omega⟩
            have HE3 : Aside0 ((ks.length : Int) = nA) := ⟨by omega⟩
            have HE4 : Aside0 ((((dropK ks s0).length : Nat) : Int) - ((dropK (dropK ks s0) s0).length : Nat) = 0) := ⟨by rw [dropK_twice]; omega⟩
            have HK1 : Aside0 (ks.length ≤ 1000) := ⟨by omega⟩
            have HK2 : Aside0 ((dropK ks s0).length ≤ 1000) := ⟨by omega⟩
            have hA18 : nA ≤ 18 := by omega
            have hSA : nS ≤ nA := by omega
            have H1 : Aside0 (Sta w1 gs W.heap.size (fun k => k = gN) ks M) := ⟨Sta.ch H.out HC.out (fun k hk _ => .inl hk) (fun k hk => .inl hk)⟩
            have HB1 := Aside0.mk (Below.ch HB.out HC.out HB.out.size (fun k hk => by rw [hk]; exact HGB.out))
            have e1 : ((nA : Int) != (nA : Int)) = false := by simp
            have e2 : ((nS : Int) != (nS : Int)) = false := by simp
            have e3 : ((nA : Int) - nS != (nA : Int) - nS) = false := by simp
            clear hnA hnS hk18 hdl
            go_wp2_with fail
            refine (staCount w1 gs _ _ _ _ H1.out).mono ?_
            rintro e w1 ⟨rfl, rfl⟩
            rw [HE3.out]
            go_wp2_with fail
            refine (staDrop w1 gs _ _ _ _ H1.out HK1.out s0).mono ?_
            rintro e w5 ⟨rfl, h5, hc5⟩
            rw [HE1.out]
            have H5 := Aside0.mk h5
            have HB5 := Aside0.mk (Below.ch HB1.out hc5 HB1.out.size (fun k hk => hk.1))
            have HBN5 := Aside0.mk (hc5.blk HBN2.out (fun h => h.2 rfl))
            clear h5 hc5
            go_wp2_with fail
            refine (staCount w5 gs _ _ _ _ H5.out).mono ?_
            rintro e w5 ⟨rfl, rfl⟩
            rw [HE2.out]
            go_wp2_with fail
            refine (staDrop w5 gs _ _ _ _ H5.out HK2.out s0).mono ?_
            rintro e w6 ⟨rfl, h6, hc6⟩
            rw [HE4.out]
            rw [dropK_twice, dropM_twice] at h6
            have H6 := Aside0.mk h6
            have HB6 := Aside0.mk (Below.ch HB5.out hc6 HB5.out.size (fun k hk => hk.1))
            have HBN6 := Aside0.mk (hc6.blk HBN5.out (fun h => h.2 rfl))
            clear h6 hc6 e1 e2 e3 hA18 hSA hi
            go_wp2_with fail
            go_loopg [12, 13] 6 (fun kq v12 v13 w' => ∃ (i : Nat), i + kq = 6 ∧ v12 = .int .i64 i ∧ Aside0 (Below w6.heap.size w6 w'))
            case atStart => exact ⟨0, rfl, rfl, ⟨Below.refl _ _⟩⟩
            case round =>
              obtain ⟨i, hi, rfl, HBq⟩ := hrel
              obtain ⟨w7, rfl⟩ : ∃ w7 : World, w7 = wr := ⟨_, rfl⟩
              by_cases hi6 : i < 6
              · have hi6' : (i : Int) < 6 := by omega
                go_wp2_with fail
                go_loopg [13] 3 (fun kq v13 w' => ∃ (a : Nat), a + kq = 3 ∧ v13 = .int .i64 (a + 1 : Nat) ∧ Aside0 (Below w6.heap.size w6 w'))
                case atStart => exact ⟨0, rfl, rfl, HBq⟩
                case round =>
                  clear HBq
                  obtain ⟨a, ha, rfl, HBq⟩ := hrel
                  obtain ⟨b, hb⟩ : ∃ b, b = a + 1 := ⟨_, rfl⟩
                  rw [← hb]
                  have HBA := Aside0.mk hb
                  by_cases ha3 : a < 3
                  · have hb3 : b ≤ 3 := by omega
                    have hb1 : 1 ≤ b := by omega
                    have hi0 : (0 : Int) ≤ i := by omega
                    have hi1 : (i : Int) < 6 := by omega
                    have hb0 : (0 : Int) ≤ b := by omega
                    have hb4 : (b : Int) < 4 := by omega
                    have HNX : Aside0 (∀ w', Below w6.heap.size w6 w' → Calls Try.prog 39 #[.pointer (some ⟨gs, 0, none⟩), .int .i64 i, .int .i64 b] w' fun e w'' => e = .returned (.int .i64 (dropM M s0 i b).length) ∧ w'' = w') := ⟨fun w' h => staNext w' gs _ _ _ _ (H6.out.below h) i b⟩
                    have hcd : wr.cell? ⟨gN, i * 4 + b, none⟩ = some (.int .i64 (C.getD (i * 4 + b) 0)) := cell24 ((HBq.out.block gN (blk_lt' HBN6.out)).trans HBN6.out) (by rw [HNC.out.1]; omega)
                    rw [hb, HNC.out.2 i a (by omega) ha3 (by omega), ← hb] at hcd
                    by_cases his : (i : Int) = s0
                    · have q1 : ((i : Int) == s0) = true := by simpa using his
                      have q2 : ((i : Int) != s0) = false := by simpa using his
                      have e0 : dropM M s0 i b = [] := if_pos his
                      have HNX2 : Aside0 (∀ w', Below w6.heap.size w6 w' → Calls Try.prog 39 #[.pointer (some ⟨gs, 0, none⟩), .int .i64 i, .int .i64 b] w' fun e w'' => e = .returned (.int .i64 0) ∧ w'' = w') := ⟨fun w' h => by have := HNX.out w' h; rw [e0] at this; exact this⟩
                      clear HNX hcd his e0 hb
                      go_wp2_with fail
                      go_quiet ((go_at_call 39; exact (HNX2.out _ (below_then HBq.out HBq.out.size (pw_below_drewN (Below.refl _ _) _))).mono (fun e w' h => ⟨h.1, _, h.2⟩)))
                      go_wp2_with fail
                      go_roundg (2 - a)
                      case measure => omega
                      case rel => exact ⟨a + 1, by omega, congrArg _ (by have := HBA.out; omega), ⟨below_then HBq.out HBq.out.size (pw_below_drewN (Below.refl _ _) _)⟩⟩
                    · have q1 : ((i : Int) == s0) = false := by simpa using his
                      have q2 : ((i : Int) != s0) = true := by simpa using his
                      have e0 : dropM M s0 i b = M i b := if_neg his
                      obtain ⟨m, hm⟩ : ∃ m, m = (M i b).length := ⟨_, rfl⟩
                      have hcd1 : wr.cell? ⟨gN, i * 4 + b, none⟩ = some (.int .i64 m) := by rw [hcd, hm, hb]; rfl
                      clear hcd
                      have HNX2 : Aside0 (∀ w', Below w6.heap.size w6 w' → Calls Try.prog 39 #[.pointer (some ⟨gs, 0, none⟩), .int .i64 i, .int .i64 b] w' fun e w'' => e = .returned (.int .i64 m) ∧ w'' = w') := ⟨fun w' h => by have := HNX.out w' h; rw [e0, ← hm] at this; exact this⟩
                      have hmm : ((m : Int) != (m : Int)) = false := by simp
                      clear HNX his e0 hb hm
                      go_wp2_with fail
                      go_quiet ((go_at_call 39; exact (HNX2.out _ (below_then HBq.out HBq.out.size (pw_below_drewN (Below.refl _ _) _))).mono (fun e w' h => ⟨h.1, _, h.2⟩)))
                      go_wp2_with fail
                      go_roundg (2 - a)
                      case measure => omega
                      case rel => exact ⟨a + 1, by omega, congrArg _ (by have := HBA.out; omega), ⟨below_then HBq.out HBq.out.size (pw_below_drewN (Below.refl _ _) _)⟩⟩
                  · have hb4 : b = 4 := by omega
                    clear hb ha
                    subst hb4
                    go_wp2_with fail
                    go_roundg (5 - i)
                    case measure => omega
                    case rel => exact ⟨i + 1, by omega, by go_num, HBq⟩
              · have hi' : i = 6 := by omega
                subst hi'
                go_wp2_with fail
                refine (awake18 _).mono ?_
                rintro e w8 ⟨rfl, hb8⟩
                have HB8 := Aside0.mk (two_ands _ _ _ (two_ands _ _ _ HB6.out HBq.out) hb8)
                clear hb8
                go_wp2_with fail
                go_ret
                exact ⟨rfl, HB8.out⟩
end Go.Proofs.Ytckjgfbfjjiikaa.K
