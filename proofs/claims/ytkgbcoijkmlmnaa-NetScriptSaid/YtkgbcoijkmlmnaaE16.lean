/- The statement NetRoom. WRITTEN BY wip/gen_room.py. -/
import Derived.Test.YtkgbcoijkmlmnaaE13
import Derived.Test.YtkgbcoijkmlmnaaE15
import Derived.Test.YtkgbcoijkmlmnaaKL
set_option linter.unusedVariables false
set_option linter.unusedSimpArgs false
set_option maxRecDepth 100000
namespace Go.Proofs.Ytkgbcoijkmlmnaa.K
open Go.RowKit Go.Proofs.YtkgbcoijkmlmnaaW.PrintWords Go.Proofs.YtkgbcoijkmlmnaaW.PrintLast Go.Proofs.YtkgbcoijkmlmnaaW.PrintMore Go.Proofs.Ytkgbcoijkmlmnaa.U Go.Proofs.Ytkgbcoijkmlmnaa.T
attribute [local go_sem] max2_int min2_int

set_option maxHeartbeats 1600000 in
theorem take_noH (p : Value) (w : World) (i : Int) (h : ∀ w', HeldN w w' → Calls Try.prog 44 #[p, .int .i64 i] w' fun e w'' => e = .returned (.bool false) ∧ w'' = w') : Calls Try.prog 15 #[p, .int .i64 i] w fun e w' => e = .returned (.tuple #[zeroV, .bool false]) ∧ Below w.heap.size w w' := by
  obtain ⟨g, hg⟩ : ∃ g, g = w.heap.size := ⟨_, rfl⟩
  obtain ⟨wA, hwA⟩ : ∃ w', w' = w.alloc (.cells #[.int .i64 0, .int .i64 0, .int .i64 0, .int .i64 0, .int .i64 0, .int .i64 0, .int .i64 0, .int .i64 0, .int .i64 0, .int .i64 0, .slice none 0 0, .slice none 0 0] 36) := ⟨_, rfl⟩
  have hbA : Below w.heap.size w wA := by rw [hwA]; exact (Below.refl _ _).alloc (Nat.le_refl _) _
  have hgA : wA.heap[g]? = some (.cells ([.int .i64 0, .int .i64 0, .int .i64 0, .int .i64 0, .int .i64 0, .int .i64 0, .int .i64 0, .int .i64 0, .int .i64 0, .int .i64 0, .slice none 0 0, .slice none 0 0] : List Value).toArray 36 (0, 0)) := by rw [hwA, hg]; exact alloc_at w _
  have H := Aside0.mk (h wA hbA)
  have HWA := Aside0.mk hwA
  have HG := Aside0.mk hg
  have HGA := Aside0.mk hgA
  have HBA := Aside0.mk hbA
  clear h hwA hg hbA hgA
  go_enter Try.func15, Try.ntmps15
  go_upto_region 1 with (fail)
  rw [← HWA.out, ← HG.out]
  go_wp2_with fail
  refine H.out.mono ?_
  rintro e w1 ⟨rfl, rfl⟩
  have hgA := HGA.out
  have f0 : w1.cell? ⟨g, 0, none⟩ = some (.int .i64 0) := cell_of_blk hgA
  have z0 : w1.frozen? ⟨g, 0, none⟩ = false := frozen_of_blk hgA
  have f1 : w1.cell? ⟨g, 1, none⟩ = some (.int .i64 0) := cell_of_blk hgA
  have z1 : w1.frozen? ⟨g, 1, none⟩ = false := frozen_of_blk hgA
  have f2 : w1.cell? ⟨g, 2, none⟩ = some (.int .i64 0) := cell_of_blk hgA
  have z2 : w1.frozen? ⟨g, 2, none⟩ = false := frozen_of_blk hgA
  have f3 : w1.cell? ⟨g, 3, none⟩ = some (.int .i64 0) := cell_of_blk hgA
  have z3 : w1.frozen? ⟨g, 3, none⟩ = false := frozen_of_blk hgA
  have f4 : w1.cell? ⟨g, 4, none⟩ = some (.int .i64 0) := cell_of_blk hgA
  have z4 : w1.frozen? ⟨g, 4, none⟩ = false := frozen_of_blk hgA
  have f5 : w1.cell? ⟨g, 5, none⟩ = some (.int .i64 0) := cell_of_blk hgA
  have z5 : w1.frozen? ⟨g, 5, none⟩ = false := frozen_of_blk hgA
  have f6 : w1.cell? ⟨g, 6, none⟩ = some (.int .i64 0) := cell_of_blk hgA
  have z6 : w1.frozen? ⟨g, 6, none⟩ = false := frozen_of_blk hgA
  have f7 : w1.cell? ⟨g, 7, none⟩ = some (.int .i64 0) := cell_of_blk hgA
  have z7 : w1.frozen? ⟨g, 7, none⟩ = false := frozen_of_blk hgA
  have f8 : w1.cell? ⟨g, 8, none⟩ = some (.int .i64 0) := cell_of_blk hgA
  have z8 : w1.frozen? ⟨g, 8, none⟩ = false := frozen_of_blk hgA
  have f9 : w1.cell? ⟨g, 9, none⟩ = some (.int .i64 0) := cell_of_blk hgA
  have z9 : w1.frozen? ⟨g, 9, none⟩ = false := frozen_of_blk hgA
  have f10 : w1.cell? ⟨g, 10, none⟩ = some (.slice none 0 0) := cell_of_blk hgA
  have z10 : w1.frozen? ⟨g, 10, none⟩ = false := frozen_of_blk hgA
  have f11 : w1.cell? ⟨g, 11, none⟩ = some (.slice none 0 0) := cell_of_blk hgA
  have z11 : w1.frozen? ⟨g, 11, none⟩ = false := frozen_of_blk hgA
  clear hgA
  have hu := Try.underlying36
  have hum := Try.underlying34
  go_wp2_with fail
  obtain ⟨w9, hw9⟩ : ∃ w9, w9 = wrote12 w1 g (.int .i64 0) (.int .i64 0) (.int .i64 0) (.int .i64 0) (.int .i64 0) (.int .i64 0) (.int .i64 0) (.int .i64 0) (.int .i64 0) (.int .i64 0) (.slice none 0 0) (.slice none 0 0) := ⟨_, rfl⟩
  have hq9 := set12 HGA.out (.int .i64 0) (.int .i64 0) (.int .i64 0) (.int .i64 0) (.int .i64 0) (.int .i64 0) (.int .i64 0) (.int .i64 0) (.int .i64 0) (.int .i64 0) (.slice none 0 0) (.slice none 0 0)
  have hc9 := set12_ch w1 g (.int .i64 0) (.int .i64 0) (.int .i64 0) (.int .i64 0) (.int .i64 0) (.int .i64 0) (.int .i64 0) (.int .i64 0) (.int .i64 0) (.int .i64 0) (.slice none 0 0) (.slice none 0 0)
  rw [← hw9] at hq9 hc9
  unfold wrote12 at hw9
  rw [← hw9]
  have y0 : w9.cell? ⟨g, 0, none⟩ = some (.int .i64 0) := cell_of_blk hq9
  have y1 : w9.cell? ⟨g, 1, none⟩ = some (.int .i64 0) := cell_of_blk hq9
  have y2 : w9.cell? ⟨g, 2, none⟩ = some (.int .i64 0) := cell_of_blk hq9
  have y3 : w9.cell? ⟨g, 3, none⟩ = some (.int .i64 0) := cell_of_blk hq9
  have y4 : w9.cell? ⟨g, 4, none⟩ = some (.int .i64 0) := cell_of_blk hq9
  have y5 : w9.cell? ⟨g, 5, none⟩ = some (.int .i64 0) := cell_of_blk hq9
  have y6 : w9.cell? ⟨g, 6, none⟩ = some (.int .i64 0) := cell_of_blk hq9
  have y7 : w9.cell? ⟨g, 7, none⟩ = some (.int .i64 0) := cell_of_blk hq9
  have y8 : w9.cell? ⟨g, 8, none⟩ = some (.int .i64 0) := cell_of_blk hq9
  have y9 : w9.cell? ⟨g, 9, none⟩ = some (.int .i64 0) := cell_of_blk hq9
  have y10 : w9.cell? ⟨g, 10, none⟩ = some (.slice none 0 0) := cell_of_blk hq9
  have y11 : w9.cell? ⟨g, 11, none⟩ = some (.slice none 0 0) := cell_of_blk hq9
  clear hw9 hq9 f0 z0 f1 z1 f2 z2 f3 z3 f4 z4 f5 z5 f6 z6 f7 z7 f8 z8 f9 z9 f10 z10 f11 z11
  have h3 : Below w.heap.size w w9 := Below.ch HBA.out hc9 HBA.out.size (fun k hk => by rw [hk, HG.out]; exact Nat.le_refl _)
  have HF := Aside0.mk h3
  clear h3 hc9
  refine bodyPost_ret (v := .tuple #[zeroV, .bool false]) ?_ rfl ⟨rfl, HF.out⟩
  simp [results, Try.results15, go_sem, *]
  rfl
/-- Rows of letters that hold no rows, whatever their empty slices are. -/
def OkNL (p : Int × Int) (cs : List Value) : Prop := ∃ A1 c1 A2 c2, cs = rawL (nl p) (.slice A1 0 c1) (.slice A2 0 c2)
def kNL : Kd (Int × Int) where
  sz := 12
  E := []
  K := fun _ p cs => OkNL p cs
  M := fun _ _ _ p cs => OkNL p cs
  K_len := by
    rintro w z cs ⟨_, _, _, _, rfl⟩
    rfl
  K_one := by
    rintro w z cs ⟨_, _, _, _, rfl⟩ u hu
    simp only [rawL, List.mem_cons, List.not_mem_nil, or_false] at hu
    rcases hu with rfl | rfl | rfl | rfl | rfl | rfl | rfl | rfl | rfl | rfl | rfl | rfl <;> rfl
  K_below := fun _ h => h
  K_of_M := fun h => h
  M_mono := fun _ h => h
  M_bound := fun h => h
  M_move := fun _ h => h
  M_lower := fun _ h => h
theorem flat_NL : Flat kNL := ⟨fun h _ _ _ => h⟩
theorem nil_C {α : Type} (d : Kd α) (w : World) (A : Option Addr) : Kd.C d w A 0 [] := ⟨rfl, by show 0 ≤ 9223372036854775807; omega, fun h => absurd h (by omega)⟩
theorem C_of_NL {w : World} {A : Option Addr} {n : Nat} {ps : List (Int × Int)} (h : Kd.C kNL w A n ps) : Kd.C kLet w A n (ps.map nl) := by
  obtain ⟨h1, h2, h3⟩ := h
  refine ⟨by rw [List.length_map]; exact h1, h2, fun hn => ?_⟩
  obtain ⟨ad, ea, hc⟩ := h3 hn
  refine ⟨ad, ea, fun j x hj => ?_⟩
  rw [List.getElem?_map] at hj
  obtain ⟨z, hz, rfl⟩ := Option.map_eq_some_iff.1 hj
  obtain ⟨cs, hl, ⟨A1, c1, A2, c2, rfl⟩, hcell⟩ := hc j z hz
  exact ⟨_, rfl, kLet_mk (x := nl z) ⟨nil_C _ _ _, nil_C _ _ _, Nat.zero_le _, Nat.zero_le _⟩, hcell⟩
theorem lit_NL (w : World) (p : Int × Int) {g : Nat} {t : TypeId} {fr : Nat × Nat} (h : w.heap[g]? = some (.cells (nlL p).toArray t fr)) : Kd.C kNL w (some ⟨g, 0, none⟩) 1 [p] := by
  refine ⟨rfl, by show 1 ≤ 9223372036854775807; omega, fun _ => ⟨_, rfl, fun j y hj => ?_⟩⟩
  have hj0 : j = 0 ∧ p = y := by
    cases j with
    | zero => simpa using hj
    | succ j => simp at hj
  obtain ⟨rfl, rfl⟩ := hj0
  refine ⟨_, rfl, ⟨none, 0, none, 0, rfl⟩, fun i u hu => ?_⟩
  rw [show 0 * kNL.sz + i = i from by rw [Nat.zero_mul, Nat.zero_add]]
  exact cells_of_blk h i u hu
def psN (n : Nat) : List (Int × Int) := (List.range n).map (fun i : Nat => ((i : Int), 3))
theorem psN_len (n : Nat) : (psN n).length = n := by simp [psN]
theorem psN_succ (n : Nat) : psN (n + 1) = psN n ++ [((n : Int), 3)] := by unfold psN; rw [List.range_succ, List.map_append]; rfl
theorem psN_take (n k : Nat) (h : k ≤ n) : (psN n).take k = psN k := by
  unfold psN
  rw [← List.map_take, List.take_range, Nat.min_eq_left h]
theorem psN_get (n j : Nat) (h : j < n) : ((psN n).map nl)[j]'(by rw [List.length_map, psN_len]; exact h) = ⟨(j : Int), 3, nilMsg⟩ := by simp [psN, nl]
theorem nl_sizes (ps : List (Int × Int)) : ∀ x ∈ ps.map nl, x.m.set.length ≤ 1000000 ∧ x.m.prs.length ≤ 1000000 := by
  intro x hx
  obtain ⟨p, _, rfl⟩ := List.mem_map.1 hx
  exact ⟨by show 0 ≤ 1000000; omega, by show 0 ≤ 1000000; omega⟩
/-- A net's letters, listed where they hold no rows. -/
theorem list_nl (w : World) (gN : Nat) (F : Nat → Prop) (ps : List (Int × Int)) (lost : Int) (h : NetR w gN F (ps.map nl) lost) (n : Nat) (hn : ps.length = n) :
    Calls Try.prog 20 #[.pointer (some ⟨gN, 0, none⟩)] w fun e w' => ∃ A c, e = .returned (.slice A n c) ∧ Kd.C kLet w' A n (ps.map nl) ∧ Below w.heap.size w w' := by
  refine (netList w gN F _ lost h (nl_sizes ps)).mono ?_
  rintro e w' ⟨v, zs, ow, rfl, hz, hm, hb⟩
  obtain ⟨A, c, rfl, hC⟩ := hz.reads
  have hl : zs.length = n := by
    have := congrArg List.length hm
    rw [List.length_map, List.length_map, hn] at this
    exact this
  rw [hm, hl] at hC
  rw [hl]
  exact ⟨A, c, rfl, hC, hb⟩
theorem C_mid {α : Type} {d : Kd α} {w : World} {A : Option Addr} {n : Nat} {xs : List α} (h : Kd.C d w A n xs) (l m : Nat) (hl : l + m ≤ n) : Kd.C d w (A.map (fun x => x.add (l * d.sz))) m ((xs.drop l).take m) := by
  obtain ⟨h1, h2, h3⟩ := h
  refine ⟨by rw [List.length_take, List.length_drop]; omega, by omega, fun hm => ?_⟩
  obtain ⟨ad, rfl, hc⟩ := h3 (by omega)
  refine ⟨_, rfl, fun j x hj => ?_⟩
  rw [List.getElem?_take] at hj
  split at hj
  · rw [List.getElem?_drop] at hj
    obtain ⟨cs, h4, h5, h6⟩ := hc (l + j) x hj
    refine ⟨cs, h4, h5, fun i u hu => ?_⟩
    rw [add_add', show l * d.sz + (j * d.sz + i) = (l + j) * d.sz + i from by rw [Nat.add_mul, Nat.add_assoc]]
    exact h6 i u hu
  · cases hj
theorem psN_erase (K j k : Nat) (hj : j < K) (hk : K ≤ k) : psN j ++ ((psN k).drop (j + 1)).take (K - (j + 1)) = (psN K).eraseIdx j := by
  rw [List.eraseIdx_eq_take_drop_succ, psN_take K j (by omega), ← psN_take k K hk, List.drop_take]
set_option maxHeartbeats 1600000 in
theorem netRoom_walk (W : World) (a0 : Int) (w0 : (Lit.int .i64 a0).wf = true) (a1 : Int) (w1 : (Lit.int .i64 a1).wf = true) :
    Calls Try.prog 4 #[.int .i64 a0, .int .i64 a1] W fun e w' => e = .returned (.bool true) ∧ Below W.heap.size W w' := by
  clear w0 w1
  obtain ⟨M, hM, hM2⟩ : ∃ i : Nat, lowN a0 200 = i ∧ i < 200 := ⟨(lowN a0 200).toNat, by have := lowN_range a0 200 (by omega); omega, by have := lowN_range a0 200 (by omega); omega⟩
  have HM := Aside0.mk hM
  obtain ⟨K, hK⟩ : ∃ K, K = min M 128 := ⟨_, rfl⟩
  have hKM : K ≤ M := by omega
  have hK128 : K ≤ 128 := by omega
  have HK := Aside0.mk hK
  clear hM hK
  go_enter Try.func4, Try.ntmps4
  go_wp2_with fail
  refine (low a0 200 W (by omega) (by omega)).mono ?_
  rintro e w1 ⟨rfl, rfl⟩
  rw [HM.out]
  go_wp2_with fail
  refine (netNew w1).mono ?_
  rintro e wN ⟨gN, F, rfl, hN, hF, hbN⟩
  have HN := Aside0.mk hN
  have HF := Aside0.mk (And.intro hF hN.flt)
  have HBN := Aside0.mk hbN
  clear hN hF hbN
  go_wp2_with fail
  go_loopg [6, 7] M (fun kq v6 v7 w' => ∃ (k : Nat) (A : Option Addr) (c : Nat), k + kq = M ∧ v7 = .int .i64 k ∧ v6 = .slice A k c ∧ Aside0 (Own kNL 36 w' wN.heap.size (.slice A k c) (psN k) ∧ Below wN.heap.size wN w'))
  case atStart => exact ⟨0, none, 0, by omega, rfl, rfl, ⟨(Own.nil kNL 36 wN wN.heap.size : Own kNL 36 wN wN.heap.size (.slice none 0 0) (psN 0)), Below.refl _ _⟩⟩
  case round =>
    obtain ⟨k, A, c, hk, rfl, rfl, HI⟩ := hrel
    by_cases hlt : k < M
    · have hltI : (k : Int) < M := by omega
      have hb5 := (Below.refl wr.heap.size wr).alloc (Nat.le_refl _) (.cells #[.int .i64 k, .int .i64 3, .int .i64 0, .int .i64 0, .int .i64 0, .int .i64 0, .int .i64 0, .int .i64 0, .int .i64 0, .int .i64 0, .slice none 0 0, .slice none 0 0] 36)
      have HO5 := Aside0.mk (HI.out.1.below hb5)
      have HB5 := Aside0.mk (below_then HI.out.2 HI.out.2.size hb5)
      have HL5 := Aside0.mk (lit_NL (wr.alloc (.cells #[.int .i64 k, .int .i64 3, .int .i64 0, .int .i64 0, .int .i64 0, .int .i64 0, .int .i64 0, .int .i64 0, .int .i64 0, .int .i64 0, .slice none 0 0, .slice none 0 0] 36)) ((k : Int), 3) (g := wr.heap.size) (alloc_at wr (.cells (nlL ((k : Int), 3)).toArray 36)))
      have hbs : wN.heap.size ≤ (wr.alloc (.cells #[.int .i64 k, .int .i64 3, .int .i64 0, .int .i64 0, .int .i64 0, .int .i64 0, .int .i64 0, .int .i64 0, .int .i64 0, .int .i64 0, .slice none 0 0, .slice none 0 0] 36)).heap.size := HB5.out.size
      have HPL := Aside0.mk (psN_len k)
      clear hb5
      go_wp2_with (at_builtin; refine wpList_app_own flat_NL wN.heap.size rfl _ _ 28 36 _ 128 rfl Try.underlying28 info_let rfl (by decide) (by decide) (.slice A k c) (psN k) [((k : Int), 3)] (some ⟨wr.heap.size, 0, none⟩) 1 1 rfl rfl HO5.out rfl HL5.out hbs (by rw [HPL.out]; show (k + 1) * 128 ≤ 140737488355328; omega) ?_; intro v4 w4 hv4 hg4 hat4; rw [← psN_succ] at hv4; obtain ⟨A4, c4, rfl, _, _⟩ := hv4.reads; rw [psN_len] at hv4 ⊢; have HV4 := Aside0.mk hv4; have HB4 := Aside0.mk (Below.ch HB5.out (Ch.of_grown (S := fun j => (Value.slice A k c).ownBlock = some j) hg4 (fun j hj => hj)) hbs (fun j hj => HO5.out.base_ j hj)); clear hv4 hg4 hat4)
      go_roundg (M - (k + 1))
      case measure => omega
      case rel => exact ⟨k + 1, A4, c4, by omega, by go_num, rfl, ⟨HV4.out, HB4.out⟩⟩
    obtain rfl : k = M := by omega
    have hltI : ¬ (k : Int) < k := by omega
    have hflt : ∀ j, F j → j < wN.heap.size := HF.out.2
    obtain ⟨A', c', he, hcap, hCr⟩ := HI.out.1.reads
    rw [psN_len] at he hcap hCr
    obtain ⟨rfl, _, rfl⟩ : A = A' ∧ True ∧ c = c' := by injection he with a _ b; exact ⟨a, trivial, b⟩
    have hst : ∀ w', Ch wr w' F → Kd.C kNL w' A k (psN k) := fun w' hc => by
      obtain ⟨A2, c2, he2, _, hC2⟩ := (HI.out.1.ch flat_NL hc (fun j hj e => by have := HI.out.1.base_ j hj; have := hflt j e; omega)).reads
      rw [psN_len] at he2 hC2
      injection he2 with a _ _
      rw [a]
      exact hC2
    have hlen : ((psN k).map nl).length = k := by rw [List.length_map, psN_len]
    have hS := netSend wr gN F [] 0 (HN.out.below HI.out.2) A c ((psN k).map nl) (fun w' hc => by rw [hlen]; exact C_of_NL (hst w' hc)) (by rw [hlen]; omega) (nl_sizes _) (by omega)
    have hsl : sendL [] ((psN k).map nl) = (psN K).map nl := by
      show ([] : List LetD) ++ ((psN k).map nl).take (128 - 0) = _
      rw [List.nil_append, ← List.map_take]
      congr 1
      by_cases h : 128 ≤ k
      · rw [psN_take k 128 h, HK.out, Nat.min_eq_right h]
      · rw [List.take_of_length_le (by rw [psN_len]; omega), HK.out, Nat.min_eq_left (by omega)]
    have hlo : lostN [] ((psN k).map nl) = (k : Int) - K := by
      show (((psN k).map nl).length : Int) - ((((psN k).map nl).take (128 - 0)).length : Int) = _
      rw [List.length_take, hlen]
      have := HK.out
      omega
    rw [hsl, hlo, hlen] at hS
    have HS := Aside0.mk hS
    have HST := Aside0.mk (And.intro hst hcap)
    have HBR := Aside0.mk (below_then HBN.out HBN.out.size HI.out.2)
    have hif : (if (128 : Int) < (k : Int) then (128 : Int) else (k : Int)) = (K : Int) := by have := HK.out; split <;> omega
    have hslf : ∀ w, (Instr.slice 28 (.slice A k c) none (some (.int .i64 (K : Int))) none).run Try.prog w = .ok (.slice A K c) w := fun w => slL_front w A k c K (by omega)
    clear hflt he hcap hCr hst hlen hS hsl hlo hlt hk
    go_wp2_with fail
    refine HS.out.mono ?_
    rintro e w4 ⟨rfl, ⟨F4, hN4, hF4⟩, hc4⟩
    have HN4 := Aside0.mk hN4
    have HC4C := Aside0.mk hc4
    have HF4F := Aside0.mk (show ∀ j, F4 j → F j ∨ wr.heap.size ≤ j from hF4)
    have hC4 := HST.out.1 w4 hc4
    have HC4 := Aside0.mk hC4
    have HB4 := Aside0.mk (Below.ch HBR.out hc4 HBR.out.size (fun j hj => HF.out.1 j hj))
    have HF4 : Aside0 (∀ j, F4 j → w1.heap.size ≤ j) := ⟨fun j hj => by
      rcases hF4 j hj with h | h
      · exact HF.out.1 j h
      · have := HBR.out.size; omega⟩
    have HPK := Aside0.mk (psN_len K)
    have HLEN : Aside0 (∀ w', HeldN w4 w' → Calls Try.prog 21 #[.pointer (some ⟨gN, 0, none⟩)] w' fun e w'' => e = .returned (.int .i64 K) ∧ HeldN w4 w'') := ⟨fun w' hw => by
      have h := netLen w' gN F4 _ _ (hN4.below hw)
      rw [List.length_map, psN_len] at h
      refine h.mono ?_
      rintro e w'' ⟨rfl, rfl⟩
      exact ⟨rfl, hw⟩⟩
    have HLIST : Aside0 (∀ w', HeldN w4 w' → Calls Try.prog 20 #[.pointer (some ⟨gN, 0, none⟩)] w' fun e w'' => ∃ A c, e = .returned (.slice A K c) ∧ Kd.C kLet w'' A K ((psN K).map nl) ∧ HeldN w4 w'') := ⟨fun w' hw => by
      refine (list_nl w' gN F4 (psN K) _ (hN4.below hw) K HPK.out).mono ?_
      rintro e w'' ⟨A, c, rfl, hC, hb⟩
      exact ⟨A, c, rfl, hC, hw.then_ hb⟩⟩
    have hpre : ∀ w', HeldN w4 w' → Kd.C kLet w' A K ((psN K).map nl) := fun w' hw => by
      have h := Kd.C_below hC4 hw
      refine C_of_NL ?_
      obtain ⟨h1, h2, h3⟩ := h
      refine ⟨by rw [psN_len], by omega, fun hn => ?_⟩
      obtain ⟨ad, ea, hc⟩ := h3 (by omega)
      refine ⟨ad, ea, fun j x hj => hc j x ?_⟩
      rw [← psN_take k K hKM] at hj
      rw [List.getElem?_take] at hj
      split at hj
      · exact hj
      · cases hj
    have HPRE := Aside0.mk hpre
    have HSAME : Aside0 (∀ w' A1 c1 A2 c2, HeldN w4 w' → Kd.C kLet w' A1 K ((psN K).map nl) → Kd.C kLet w' A2 K ((psN K).map nl) → Calls Try.prog 17 #[.slice A1 K c1, .slice A2 K c2] w' fun e w'' => e = .returned (.bool true) ∧ HeldN w4 w'') := ⟨fun w' A1 c1 A2 c2 hw h1 h2 => by
      have hl : ((psN K).map nl).length = K := by rw [List.length_map, psN_len]
      have h := sameLetters A1 c1 ((psN K).map nl) A2 c2 ((psN K).map nl) w' (by rw [hl]; exact h1) (by rw [hl]; exact h2) (by rw [hl]; omega) true (by simp)
      rw [hl] at h
      refine h.mono ?_
      rintro e w'' ⟨rfl, hb⟩
      exact ⟨rfl, hw.then_ hb⟩⟩
    have hh0 : HeldN w4 w4.drew := below_drew w4
    have hb1 : (((k : Int) - (K : Int)) != ((k : Int) - (K : Int))) = false := by simp
    have hb2 : ((K : Int) != (K : Int)) = false := by simp
    clear hN4 hF4 hc4 hC4 hpre
    go_wp2_with fail
    clear hif
    have hwr : IntKind.i64.wrap ((k : Int) - (K : Int)) = (k : Int) - K := IntWalk.i64_in _ (by omega)
    go_region_held3 (fun w' => HeldN w4 w') (first | assumption | exact hh0) (first
      | (go_at_call 21; refine (HLEN.out _ (by assumption)).mono ?_; rintro e wx ⟨rfl, hHx⟩)
      | (go_at_call 20; refine (HLIST.out _ (by assumption)).mono ?_; rintro e wy ⟨Al, cl, rfl, hLC, hHy⟩)
      | (go_at_call 17; refine (HSAME.out _ _ _ _ _ (by assumption) (by assumption) (HPRE.out _ (by assumption))).mono ?_; rintro e wz ⟨rfl, hHz⟩))
    clear hb1 hb2 hslf hwr hltI hh0
    by_cases hK0 : K = 0
    · have hKz : (K : Int) = 0 := by omega
      have hKzb : ((K : Int) == 0) = true := by rw [hKz]; rfl
      have HIS := Aside0.mk (show ∀ w', HeldN wz w' → Calls Try.prog 44 #[.pointer (some ⟨gN, 0, none⟩), .int .i64 0] w' fun e w'' => e = .returned (.bool false) ∧ w'' = w' from fun w' hw => netIs w' gN F4 _ _ (HN4.out.below (hHz.then_ hw)) 0 false (by rw [List.length_map, psN_len, hK0]; simp))
      have HTK : Aside0 (Calls Try.prog 15 #[.pointer (some ⟨gN, 0, none⟩), .int .i64 0] wz fun e w' => e = .returned (.tuple #[.agg #[.int .i64 0, .int .i64 0, .int .i64 0, .int .i64 0, .int .i64 0, .int .i64 0, .int .i64 0, .int .i64 0, .int .i64 0, .int .i64 0, .slice none 0 0, .slice none 0 0], .bool false]) ∧ Below wz.heap.size wz w') := ⟨take_noH (.pointer (some ⟨gN, 0, none⟩)) wz 0 HIS.out⟩
      have HHZ := Aside0.mk hHz
      clear hKz hHz hHy hHx hLC
      go_wp2_with fail
      refine HTK.out.mono ?_
      rintro e w5 ⟨rfl, hb5⟩
      have hb6 := (Below.refl w5.heap.size w5).alloc (Nat.le_refl _) (.cells #[.int .i64 0, .int .i64 0, .int .i64 0, .int .i64 0, .int .i64 0, .int .i64 0, .int .i64 0, .int .i64 0, .int .i64 0, .int .i64 0, .slice none 0 0, .slice none 0 0] 36)
      have HB6 := Aside0.mk (HHZ.out.then_ (below_then hb5 hb5.size hb6))
      have HDB := Aside0.mk (netDouble_no (w5.alloc (.cells #[.int .i64 0, .int .i64 0, .int .i64 0, .int .i64 0, .int .i64 0, .int .i64 0, .int .i64 0, .int .i64 0, .int .i64 0, .int .i64 0, .slice none 0 0, .slice none 0 0] 36)) gN F4 _ _ (HN4.out.below HB6.out) 0 (by rw [List.length_map, psN_len, hK0]; simp))
      clear hb5 hb6
      go_wp2_with fail
      refine HDB.out.mono ?_
      rintro e w6 ⟨rfl, rfl⟩
      go_wp2_with fail
      refine (awake16 _).mono ?_
      rintro e w7 ⟨rfl, hb7⟩
      have HB7 := Aside0.mk (below_then (below_then HB4.out HB4.out.size HB6.out) (below_then HB4.out HB4.out.size HB6.out).size hb7)
      clear hb7
      go_wp2_with fail
      go_ret
      exact ⟨rfl, HB7.out⟩
    have hKzb : ((K : Int) == 0) = false := beq_eq_false_iff_ne.2 (by omega)
    obtain ⟨j, hj, hjK⟩ : ∃ i : Nat, lowN a1 K = i ∧ i < K := ⟨(lowN a1 K).toNat, by have := lowN_range a1 K (by omega); omega, by have := lowN_range a1 K (by omega); omega⟩
    have HJ := Aside0.mk hj
    have HJI : Aside0 ((j : Int) < 128) := ⟨by omega⟩
    have HJW : Aside0 (IntKind.i64.wrap ((j : Int) + 1) = (j : Int) + 1) := ⟨IntWalk.i64_in _ (by omega)⟩
    have HHZ := Aside0.mk hHz
    have hNz := HN4.out.below hHz
    have HTK : Aside0 (Calls Try.prog 15 #[.pointer (some ⟨gN, 0, none⟩), .int .i64 (j : Int)] wz fun e w' => ∃ A1 A2 c1 c2, e = .returned (.tuple #[.agg #[.int .i64 j, .int .i64 3, .int .i64 0, .int .i64 0, .int .i64 0, .int .i64 0, .int .i64 0, .int .i64 0, .int .i64 0, .int .i64 0, .slice A1 0 c1, .slice A2 0 c2], .bool true]) ∧ MsgC w' nilMsg A1 A2 c1 c2 ∧ (∃ F', NetR w' gN F' (((psN K).map nl).eraseIdx j) (0 + ((k : Int) - K)) ∧ ∀ k, F' k → F4 k ∨ wz.heap.size ≤ k) ∧ Ch wz w' F4) := ⟨netTake_ok wz gN F4 ((psN K).map nl) _ hNz j (by rw [List.length_map, psN_len]; exact hjK) (j : Int) 3 nilMsg (psN_get K j hjK)⟩
    clear hj hHz hHy hHx hLC hNz
    go_wp2_with fail
    refine (low a1 K wz (by omega) (by omega)).mono ?_
    rintro e wq ⟨rfl, rfl⟩
    rw [HJ.out]
    go_wp2_with fail
    refine HTK.out.mono ?_
    rintro e w5 ⟨A1, A2, c1, c2, rfl, hm5, ⟨F5, hN5, hF5⟩, hc5⟩
    obtain ⟨w6, hw6⟩ : ∃ w6, w6 = w5.alloc (.cells #[.int .i64 j, .int .i64 3, .int .i64 0, .int .i64 0, .int .i64 0, .int .i64 0, .int .i64 0, .int .i64 0, .int .i64 0, .int .i64 0, .slice A1 0 c1, .slice A2 0 c2] 36) := ⟨_, rfl⟩
    obtain ⟨gD, hgD⟩ : ∃ g, g = w5.heap.size := ⟨_, rfl⟩
    have hb6 : Below w5.heap.size w5 w6 := by rw [hw6]; exact (Below.refl _ _).alloc (Nat.le_refl _) _
    have hD6 : w6.heap[gD]? = some (.cells ([.int .i64 j, .int .i64 3, .int .i64 0, .int .i64 0, .int .i64 0, .int .i64 0, .int .i64 0, .int .i64 0, .int .i64 0, .int .i64 0, .slice A1 0 c1, .slice A2 0 c2] : List Value).toArray 36 (0, 0)) := by rw [hw6, hgD]; exact alloc_at w5 _
    -- the row of what was sent
    have hcr5 : Ch wr w5 F := ((HC4C.out.trans (Ch.of_below HHZ.out (fun _ => False)) (fun _ _ h => h.elim)).trans hc5 (fun i hi e => by
      rcases HF4F.out i e with h | h
      · exact h
      · omega))
    have hrow := Kd.C_below (HST.out.1 w5 hcr5) hb6
    have hrowd := Kd.C_below hrow (below_drew w6)
    have hcap := HST.out.2
    have hfront : Kd.C kNL w6.drew A j (psN j) := by
      have h := C_mid hrowd 0 j (by omega)
      rw [List.drop_zero, psN_take k j (by omega)] at h
      have e : A.map (fun x => x.add (0 * kNL.sz)) = A := by cases A with | none => rfl | some a => cases a; rfl
      rwa [e] at h
    obtain ⟨X, hX⟩ : ∃ X : Option Addr, X = (if c = j + 1 then A else A.map (fun x => x.add ((j + 1) * 12))) := ⟨_, rfl⟩
    obtain ⟨m, hm⟩ : ∃ m, m = K - (j + 1) := ⟨_, rfl⟩
    obtain ⟨rl, hrl⟩ : ∃ rl, rl = ((psN k).drop (j + 1)).take m := ⟨_, rfl⟩
    have hback : Kd.C kNL w6.drew X m rl := by
      rw [hX, hrl]
      split
      · have h0 : m = 0 := by omega
        rw [h0, List.take_zero]
        exact nil_C _ _ _
      · exact C_mid hrowd (j + 1) m (by omega)
    have hrll : rl.length = m := by rw [hrl, List.length_take, List.length_drop, psN_len]; omega
    have hpj : (psN j).length = j := psN_len j
    obtain ⟨v5, w7, hr5, hO5, hg5⟩ := append_own_runs Try.prog flat_NL 28 28 _ 128 Try.underlying28 info_let rfl (by decide) (Own.nil kNL 36 w6.drew w6.drew.heap.size) A j c hpj.symm (by rw [hpj]; exact hfront) (Nat.le_refl _) (by rw [hpj]; show (0 + j) * 128 ≤ 140737488355328; omega) (by rw [hpj]; show 0 + j ≤ 9223372036854775807; omega)
    have hO5' : Own kNL 36 w7 w6.drew.heap.size v5 (psN j) := hO5
    obtain ⟨A5, c5, hv5, _, _⟩ := hO5'.reads
    rw [hpj] at hv5
    subst hv5
    have hb7 : Below w6.drew.heap.size w6.drew w7 := (Below.refl _ _).grown hg5 (Nat.le_refl _) (fun i hi => by cases hi)
    obtain ⟨v6, w8, hr6, hO6, hg6⟩ := append_own_runs Try.prog flat_NL 28 28 _ 128 Try.underlying28 info_let rfl (by decide) hO5' X m (c - (j + 1)) hrll.symm (by rw [hrll]; exact Kd.C_below hback hb7) hb7.size (by rw [hpj, hrll]; omega) (by rw [hpj, hrll]; omega)
    obtain ⟨A6, c6, hv6, _, hC8⟩ := hO6.reads
    have hl8 : (psN j ++ rl).length = K - 1 := by rw [List.length_append, hpj, hrll]; omega
    rw [hl8] at hv6 hC8
    subst hv6
    have hps : psN j ++ rl = (psN K).eraseIdx j := by rw [hrl, hm]; exact psN_erase K j k hjK (by omega)
    rw [hps] at hC8
    have hb8 : Below w6.heap.size w6 w8 := below_then (below_drew w6) (below_drew w6).size (Below.ch hb7 (Ch.of_grown (S := fun i => (Value.slice A5 j c5).ownBlock = some i) hg6 (fun i hi => hi)) hb7.size (fun i hi => hO5'.base_ i hi))
    have hD8 := (hb8.block gD (blk_lt' hD6)).trans hD6
    have hcd0 : w8.cell? ⟨gD, 0, none⟩ = some (.int .i64 (j : Int)) := cell_of_blk hD8
    have hb58 := below_then hb6 hb6.size hb8
    have hme : ((psN K).map nl).eraseIdx j = ((psN K).eraseIdx j).map nl := by rw [List.eraseIdx_eq_take_drop_succ, List.eraseIdx_eq_take_drop_succ, List.map_append, List.map_take, List.map_drop]
    have hle : ((psN K).eraseIdx j).length = K - 1 := by rw [← hps, hl8]
    have HLIST2 := Aside0.mk (list_nl w8 gN F5 ((psN K).eraseIdx j) _ (by rw [← hme]; exact hN5.below hb58) (K - 1) hle)
    have HC8 := Aside0.mk (C_of_NL hC8)
    have HLE : Aside0 ((((psN K).eraseIdx j).map nl).length = K - 1) := ⟨by rw [List.length_map, hle]⟩
    have HB5 : Aside0 (Below w1.heap.size w1 w5) := ⟨Below.ch (below_then HB4.out HB4.out.size HHZ.out) hc5 (below_then HB4.out HB4.out.size HHZ.out).size HF4.out⟩
    have HB8 := Aside0.mk (below_then HB5.out HB5.out.size hb58)
    have HW6 := Aside0.mk (And.intro hw6 hgD)
    have hjj : ((j : Int) == (j : Int)) = true := by simp
    have hjI : (j : Int) < 128 := HJI.out
    have e1 : ((j : Int) + 1) = ((j + 1 : Nat) : Int) := by omega
    have hs1 : ∀ w, (Instr.slice 28 (.slice A k c) none (some (.int .i64 (j : Int))) none).run Try.prog w = .ok (.slice A j c) w := fun w => slL_front w _ k c j (by omega)
    have hs2 : ∀ w, (Instr.slice 28 (.slice A k c) (some (.int .i64 ((j : Int) + 1))) (some (.int .i64 (K : Int))) none).run Try.prog w = .ok (.slice X m (c - (j + 1))) w := fun w => by
      rw [e1, hX, hm]
      exact slL_mid w _ k c (j + 1) K (by omega) (by omega)
    clear hm5 hN5 hF5 hc5 hw6 hgD hb6 hD6 hcr5 hrow hrowd hcap hfront hX hback hrll hpj hO5 hO5' hg5 hb7 hO6 hg6 hC8 hl8 hps hb8 hD8 hb58 hme hle e1 hrl hm
    go_upto_region 19 with (fail)
    rw [← HW6.out.1, ← HW6.out.2]
    have hw1 := HJW.out
    go_region_held_law (fun w' => True) (trivial) (first
      | (refine step_append_eq rfl (.const (.slice none 0 0)) (.tmp 83) 28 rfl (.slice none 0 0) (.slice A j c) (.slice A5 j c5) w7 (by simp [Act.eval, Act.put]) (by simp [Act.eval, Act.put]) hr5 ?_)
      | (refine step_append_eq rfl (.tmp 84) (.tmp 89) 28 rfl (.slice A5 j c5) (.slice X m (c - (j + 1))) (.slice A6 (K - 1) c6) w8 (by simp [Act.eval, Act.put]) (by simp [Act.eval, Act.put]) hr6 ?_))
    clear hw1
    go_wp2_with fail
    refine HLIST2.out.mono ?_
    rintro e w9 ⟨A9, c9, rfl, hC9, hb9⟩
    have HSAME2 := Aside0.mk (sameLetters A9 c9 (((psN K).eraseIdx j).map nl) A6 c6 (((psN K).eraseIdx j).map nl) w9 (by rw [HLE.out]; exact hC9) (by rw [HLE.out]; exact Kd.C_below HC8.out hb9) (by rw [HLE.out]; omega) true (by simp))
    rw [HLE.out] at HSAME2
    have HB9 := Aside0.mk (below_then HB8.out HB8.out.size hb9)
    clear hC9 hb9
    go_wp2_with fail
    refine HSAME2.out.mono ?_
    rintro e wa ⟨rfl, hba⟩
    have HBa := Aside0.mk (below_then HB9.out HB9.out.size hba)
    clear hba
    go_wp2_with fail
    refine (awake16 wa).mono ?_
    rintro e wb ⟨rfl, hbb⟩
    have HBb := Aside0.mk (below_then HBa.out HBa.out.size hbb)
    clear hbb
    go_wp2_with fail
    go_ret
    exact ⟨rfl, HBb.out⟩
end Go.Proofs.Ytkgbcoijkmlmnaa.K
