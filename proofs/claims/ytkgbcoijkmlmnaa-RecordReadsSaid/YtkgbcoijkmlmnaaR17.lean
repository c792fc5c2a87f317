/- The document's reading of one record. WRITTEN BY wip/gen_refone.py. -/
import Derived.Test.YtkgbcoijkmlmnaaR11
import Derived.Test.YtkgbcoijkmlmnaaR4
set_option linter.unusedVariables false
set_option linter.unusedSimpArgs false
set_option maxRecDepth 100000
namespace Go.Proofs.Ytkgbcoijkmlmnaa.K
open Go.RowKit Go.Proofs.YtkgbcoijkmlmnaaW.PrintWords Go.Proofs.YtkgbcoijkmlmnaaW.PrintLast Go.Proofs.YtkgbcoijkmlmnaaW.PrintMore Go.Proofs.Ytkgbcoijkmlmnaa.U Go.Proofs.Ytkgbcoijkmlmnaa.T

/-! ### in plain lists -/
theorem nx_ok {b : List Int} {p : Nat} {G : List Int → Option RecD} {F : Int → List Int → Option RecD} (q : Int × Int × Bool) (hq : q = rdNum b p) (hp : p ≤ b.length) :
    (q.2.2 = true → nx F (b.drop p) = F q.1 (b.drop (p + 8)) ∧ q.2.1 = ((p + 8 : Nat) : Int) ∧ p + 8 ≤ b.length) ∧ (q.2.2 = false → nx F (b.drop p) = none) := by
  subst hq
  unfold rdNum
  rw [Int.toNat_natCast]
  by_cases h1 : (0 : Int) ≤ p ∧ (p : Int) + 8 ≤ b.length
  · rw [if_pos h1]
    refine ⟨fun _ => ⟨?_, by show (p : Int) + 8 = _; omega, by omega⟩, (fun h => by cases h)⟩
    rw [nx, pN, if_pos (by rw [List.length_drop]; omega), List.drop_drop]
  · rw [if_neg h1]
    refine ⟨(fun h => by cases h), fun _ => ?_⟩
    rw [nx, pN, if_neg (by rw [List.length_drop]; omega)]
theorem nt_ok {b : List Int} {p : Nat} {F : ByteArray → List Int → Option RecD} (q : ByteArray × Int × Bool) (hq : q = rdText b p) (hp : p ≤ b.length) :
    (q.2.2 = true → nt F (b.drop p) = F q.1 (b.drop (p + 8 + q.1.size)) ∧ q.2.1 = ((p + 8 + q.1.size : Nat) : Int) ∧ p + 8 + q.1.size ≤ b.length) ∧ (q.2.2 = false → nt F (b.drop p) = none) := by
  obtain ⟨h1, h2⟩ := rdText_pT b p hp q hq
  refine ⟨fun h => ?_, fun h => by rw [nt, h1 h]⟩
  obtain ⟨⟨r, hr⟩, h3, h4⟩ := h2 h
  refine ⟨?_, h3, h4⟩
  have hr2 : r = b.drop (p + 8 + q.1.size) := by
    have h5 := hr
    unfold pT at h5
    split at h5
    · split at h5
      · injection h5 with h5
        injection h5 with h6 h7
        rename_i hc1 hc2
        rw [← h7, List.drop_drop]
        have hs : q.1.size = (dec8 ((b.drop p).take 8)).toNat := by
          rw [← h6, size_str, List.length_take, List.length_drop, List.length_drop]
          rw [List.length_drop] at hc2
          omega
        rw [hs, Nat.add_assoc]
      · cases h5
    · cases h5
  rw [nt, hr, hr2]

theorem one_few' (l : List Int) (h : l.length < 8) : oneR l = none := by
  unfold oneR
  have hp : pT l = none := by
    unfold pT
    rw [if_neg (by omega)]
  rw [hp]
theorem one_bad (l : List Int) (h8 : 8 ≤ l.length) (h : ¬ (0 ≤ dec8 (l.take 8) ∧ dec8 (l.take 8) + 8 ≤ (l.length : Int))) : oneR l = none := by
  unfold oneR
  have hp : pT l = none := by
    unfold pT
    rw [if_pos h8, if_neg h]
  rw [hp]
theorem one_at {l r : List Int} {s : ByteArray} (h : pT l = some (s, r)) : oneR l = (parseRec (bytesOf s)).map (fun x => (x, 8 + s.size)) := by
  unfold oneR
  rw [h]
def fin6 (acc : List Int) : List Int → Option RecD := match acc with
  | [k, p, s, a, r, n] => fun l => if 0 ≤ n ∧ n ≤ 6 then cSet k p s a r n.toNat [] l else none
  | _ => fun _ => none
def nF : Nat → List Int → List Int → Option RecD
  | 0, acc => fin6 acc
  | m + 1, acc => nx (fun v => nF m (acc ++ [v]))
theorem parse_nF : parseRec = nF 6 [] := rfl
/-- A body of which the first number of numbers is too great is none. -/
structure PI (S : List Int) (n : Int) (G : List Int → Option RecD) (l : List Int) : Prop where
  le : n ≤ 6 → parseRec S = G l
  gt : 6 < n → parseRec S = none
theorem PI.none {S : List Int} {n : Int} {G : List Int → Option RecD} {l : List Int} (h : PI S n G l) (hg : G l = none) : parseRec S = none := by
  rcases Int.lt_or_le 6 n with h1 | h1
  · exact h.gt h1
  · rw [h.le h1, hg]
theorem PI.to {S : List Int} {n : Int} {G G' : List Int → Option RecD} {l l' : List Int} (h : PI S n G l) (hg : G l = G' l') : PI S n G' l' := ⟨fun h1 => by rw [h.le h1, hg], h.gt⟩
/-- What the document's call has made. -/
structure RT (w w' : World) (g2 : Nat) : Prop where
  z : w'.heap[g2]? = some (.cells (rawR zeroRec (.slice none 0 0) (.slice none 0 0)).toArray 64 (0, 0))
  b : Below w.heap.size w w'
  o : w.heap.size ≤ g2
theorem RT.below {w w' w'' : World} {g2 : Nat} (h : RT w w' g2) (hb : Below w'.heap.size w' w'') : RT w w'' g2 := ⟨(hb.block _ (blk_lt' h.z)).trans h.z, two_andj _ _ _ h.b hb, h.o⟩
theorem RT.ch {w w' w'' : World} {g2 : Nat} {S : Nat → Prop} (h : RT w w' g2) (hc : Ch w' w'' S) (hS : ∀ k, S k → g2 < k) : RT w w'' g2 := ⟨hc.blk h.z (fun e => by have := hS _ e; omega), Below.ch h.b hc h.b.size (fun k hk => by have := hS _ hk; have := h.o; omega), h.o⟩
/-- The document's call, with its record. -/
structure OT (w w' : World) (g2 gf gx : Nat) (nn : Int) (cs : List Value) : Prop where
  rt : RT w w' g2
  f5 : w'.cell? ⟨gf, 5, none⟩ = some (.int .i64 nn)
  x : w'.heap[gx]? = some (.cells cs.toArray 64 (0, 0))
  o1 : g2 < gf
  o2 : gf < gx
section
variable {w w' w'' : World} {g2 gf gx : Nat} {nn : Int} {cs : List Value}
theorem OT.ch {S : Nat → Prop} (h : OT w w' g2 gf gx nn cs) (hc : Ch w' w'' S) (hS : ∀ k, S k → gx < k) : OT w w'' g2 gf gx nn cs :=
  ⟨h.rt.ch hc (fun k hk => by have := hS k hk; have := h.o1; have := h.o2; omega), hc.cell h.f5 (fun e => by have e : S gf := e; have := hS _ e; have := h.o2; omega), hc.blk h.x (fun e => by have := hS _ e; omega), h.o1, h.o2⟩
theorem OT.below (h : OT w w' g2 gf gx nn cs) (hb : Below w'.heap.size w' w'') : OT w w'' g2 gf gx nn cs := h.ch (Ch.of_below hb (fun _ => False)) (fun _ e => e.elim)
theorem OT.put (h : OT w w' g2 gf gx nn cs) (j : Nat) (v : Value) : OT w (w'.setCell ⟨gx, j, none⟩ v) g2 gf gx nn (cs.set j v) := by
  have hc : Ch w' (w'.setCell ⟨gx, j, none⟩ v) (fun k => k = gx) := (Ch.refl w' (fun k => k = gx)).setCell ⟨gx, j, none⟩ v rfl
  exact ⟨h.rt.ch hc (fun k hk => by have hk : k = gx := hk; have := h.o1; have := h.o2; omega), hc.cell h.f5 (fun e => by have e : gf = gx := e; have := h.o2; omega), setCell_blk h.x v, h.o1, h.o2⟩
end
/-- What the document's call answers. -/
def OneTo (w w' : World) (l : List Int) (e : Ending) : Prop := ∃ x sv pv, ∃ n : Nat, (e = .returned (.tuple #[recV x sv pv, .int .i64 (n : Int), .bool true]) ∧ oneR l = some (x, n) ∧ Own kI 3 w' w.heap.size sv x.set ∧ Own kPair 114 w' w.heap.size pv x.prs ∧ Below w.heap.size w w') ∨ (e = .returned (.tuple #[recV zeroRec (.slice none 0 0) (.slice none 0 0), .int .i64 0, .bool false]) ∧ oneR l = none ∧ Below w.heap.size w w')
theorem OneTo.no {w w' : World} {l : List Int} {e : Ending} (he : e = .returned (.tuple #[recV zeroRec (.slice none 0 0) (.slice none 0 0), .int .i64 0, .bool false])) (h : oneR l = none) (hb : Below w.heap.size w w') : OneTo w w' l e := ⟨zeroRec, .slice none 0 0, .slice none 0 0, 0, .inr ⟨he, h, hb⟩⟩
set_option maxHeartbeats 6400000 in
theorem refOne (A : Option Addr) (c : Nat) (l : List Int) (w : World) (hr : Kd.C (Kd.int .u8) w A l.length l) (hc : l.length ≤ c) (hl : l.length ≤ 1000000) (hok : OkB l) :
    Calls Try.prog 51 #[.slice A l.length c] w fun e w' => OneTo w w' l e := by
  obtain ⟨g2, hg2⟩ : ∃ g2, g2 = w.heap.size := ⟨_, rfl⟩
  obtain ⟨wA, hwA⟩ : ∃ wA, wA = w.alloc (.cells #[.int .i64 0, .int .i64 0, .int .i64 0, .int .i64 0, .int .i64 0, .slice none 0 0, .slice none 0 0] 64) := ⟨_, rfl⟩
  have hbA : Below w.heap.size w wA := by rw [hwA]; exact (Below.refl _ _).alloc (Nat.le_refl _) _
  have HRT : Aside0 (RT w wA g2) := ⟨⟨by rw [hwA, hg2]; exact alloc_at w _, hbA, by rw [hg2]; exact Nat.le_refl _⟩⟩
  have HR := Aside0.mk hr
  have HOK := Aside0.mk hok
  have HWA := Aside0.mk (And.intro hwA hg2)
  have hu := Try.underlying64
  obtain ⟨q, hq⟩ : ∃ q, q = rdNum l 0 := ⟨_, rfl⟩
  have HQ := Aside0.mk hq
  have HRN := Aside0.mk (refReadNum_any A c l 0 wA (Kd.C_below hr hbA) hc (by omega) q hq)
  clear hr hok hg2 hwA hbA hq
  obtain ⟨n, at0, ok⟩ := q
  simp only at HRN
  go_enter Try.func51, Try.ntmps51
  go_upto_region 1 with (fail)
  rw [← HWA.out.2, ← HWA.out.1]
  go_wp2_with fail
  refine HRN.out.mono ?_
  rintro e w1 ⟨rfl, hb1⟩
  have HRT1 := Aside0.mk (HRT.out.below hb1)
  clear hb1 HRT
  have HPT := Aside0.mk (rdText_pT l 0 (Nat.zero_le _) (rdText l 0) rfl)
  cases ok with
  | false =>
    have HNO : Aside0 (oneR l = none) := ⟨by
      have h8 : ¬ (0 ≤ (0 : Int) ∧ (0 : Int) + 8 ≤ l.length) := fun h => by have h2 := HQ.out; unfold rdNum at h2; rw [if_pos h] at h2; cases h2
      exact one_few' l (by omega)⟩
    have hzz := HRT1.out.z
    have f0 : w1.cell? ⟨g2, 0, none⟩ = some (.int .i64 0) := cell_of_blk hzz
    have z0 : w1.frozen? ⟨g2, 0, none⟩ = false := frozen_of_blk hzz
    have f1 : w1.cell? ⟨g2, 1, none⟩ = some (.int .i64 0) := cell_of_blk hzz
    have z1 : w1.frozen? ⟨g2, 1, none⟩ = false := frozen_of_blk hzz
    have f2 : w1.cell? ⟨g2, 2, none⟩ = some (.int .i64 0) := cell_of_blk hzz
    have z2 : w1.frozen? ⟨g2, 2, none⟩ = false := frozen_of_blk hzz
    have f3 : w1.cell? ⟨g2, 3, none⟩ = some (.int .i64 0) := cell_of_blk hzz
    have z3 : w1.frozen? ⟨g2, 3, none⟩ = false := frozen_of_blk hzz
    have f4 : w1.cell? ⟨g2, 4, none⟩ = some (.int .i64 0) := cell_of_blk hzz
    have z4 : w1.frozen? ⟨g2, 4, none⟩ = false := frozen_of_blk hzz
    have f5 : w1.cell? ⟨g2, 5, none⟩ = some (.slice none 0 0) := cell_of_blk hzz
    have z5 : w1.frozen? ⟨g2, 5, none⟩ = false := frozen_of_blk hzz
    have f6 : w1.cell? ⟨g2, 6, none⟩ = some (.slice none 0 0) := cell_of_blk hzz
    have z6 : w1.frozen? ⟨g2, 6, none⟩ = false := frozen_of_blk hzz
    clear hzz
    go_wp2_with fail
    obtain ⟨w9, hw9⟩ : ∃ w9, w9 = (((((((w1.setCell ⟨g2, 0, none⟩ (.int .i64 0)).setCell ⟨g2, 1, none⟩ (.int .i64 0)).setCell ⟨g2, 2, none⟩ (.int .i64 0)).setCell ⟨g2, 3, none⟩ (.int .i64 0)).setCell ⟨g2, 4, none⟩ (.int .i64 0)).setCell ⟨g2, 5, none⟩ (.slice none 0 0)).setCell ⟨g2, 6, none⟩ (.slice none 0 0)) := ⟨_, rfl⟩
    have hq9 := (setCell_blk (j := 6) (setCell_blk (j := 5) (setCell_blk (j := 4) (setCell_blk (j := 3) (setCell_blk (j := 2) (setCell_blk (j := 1) (setCell_blk (j := 0) HRT1.out.z (.int .i64 0)) (.int .i64 0)) (.int .i64 0)) (.int .i64 0)) (.int .i64 0)) (.slice none 0 0)) (.slice none 0 0))
    have hc9 := ((((((((Ch.refl w1 (fun k => k = g2)).setCell ⟨g2, 0, none⟩ (.int .i64 0) rfl).setCell ⟨g2, 1, none⟩ (.int .i64 0) rfl).setCell ⟨g2, 2, none⟩ (.int .i64 0) rfl).setCell ⟨g2, 3, none⟩ (.int .i64 0) rfl).setCell ⟨g2, 4, none⟩ (.int .i64 0) rfl).setCell ⟨g2, 5, none⟩ (.slice none 0 0) rfl).setCell ⟨g2, 6, none⟩ (.slice none 0 0) rfl)
    rw [← hw9] at hq9 hc9 ⊢
    clear hw9 f0 f1 f2 f3 f4 f5 f6 z0 z1 z2 z3 z4 z5 z6
    have y0 : w9.cell? ⟨g2, 0, none⟩ = some (.int .i64 0) := cell_of_blk hq9
    have y1 : w9.cell? ⟨g2, 1, none⟩ = some (.int .i64 0) := cell_of_blk hq9
    have y2 : w9.cell? ⟨g2, 2, none⟩ = some (.int .i64 0) := cell_of_blk hq9
    have y3 : w9.cell? ⟨g2, 3, none⟩ = some (.int .i64 0) := cell_of_blk hq9
    have y4 : w9.cell? ⟨g2, 4, none⟩ = some (.int .i64 0) := cell_of_blk hq9
    have y5 : w9.cell? ⟨g2, 5, none⟩ = some (.slice none 0 0) := cell_of_blk hq9
    have y6 : w9.cell? ⟨g2, 6, none⟩ = some (.slice none 0 0) := cell_of_blk hq9
    have hbz := Below.ch HRT1.out.b hc9 HRT1.out.b.size (fun i hi => by have hi : i = g2 := hi; have := HRT1.out.o; omega)
    have HBZ := Aside0.mk hbz
    clear hq9 hc9 hbz
    refine bodyPost_ret (v := .tuple #[recV zeroRec (.slice none 0 0) (.slice none 0 0), .int .i64 0, .bool false]) ?_ rfl (OneTo.no rfl HNO.out HBZ.out)
    simp [results, Try.results51, go_sem, *]
    rfl
  | true =>
    have h8 : 8 ≤ l.length := by
      have h2 := HQ.out
      unfold rdNum at h2
      by_cases h : 0 ≤ (0 : Int) ∧ (0 : Int) + 8 ≤ l.length
      · omega
      · rw [if_neg h] at h2; cases h2
    have hq2 : n = dec8 (l.take 8) ∧ at0 = 8 := by
      have h2 := HQ.out
      unfold rdNum at h2
      rw [if_pos ⟨by omega, by omega⟩] at h2
      injection h2 with h3 h4
      injection h4 with h5 h6
      exact ⟨by rw [h3]; rfl, by rw [h5]; rfl⟩
    obtain ⟨hn, rfl⟩ := hq2
    have HN := Aside0.mk hn
    have hw8 : IntKind.i64.wrap ((l.length : Int) - 8) = (l.length : Int) - 8 := IntWalk.i64_in _ (by omega)
    clear hn
    by_cases hbad : 0 ≤ n ∧ n ≤ (l.length : Int) - 8
    case neg =>
      by_cases hneg : n < 0
      case' pos =>
        clear hbad
      case' neg =>
        have hbig : (l.length : Int) - 8 < n := by omega
        clear hbad
      all_goals
        have HNO : Aside0 (oneR l = none) := ⟨by
          refine one_bad l h8 (fun h => ?_)
          rw [← HN.out] at h
          omega⟩
        have hzz := HRT1.out.z
        have f0 : w1.cell? ⟨g2, 0, none⟩ = some (.int .i64 0) := cell_of_blk hzz
        have z0 : w1.frozen? ⟨g2, 0, none⟩ = false := frozen_of_blk hzz
        have f1 : w1.cell? ⟨g2, 1, none⟩ = some (.int .i64 0) := cell_of_blk hzz
        have z1 : w1.frozen? ⟨g2, 1, none⟩ = false := frozen_of_blk hzz
        have f2 : w1.cell? ⟨g2, 2, none⟩ = some (.int .i64 0) := cell_of_blk hzz
        have z2 : w1.frozen? ⟨g2, 2, none⟩ = false := frozen_of_blk hzz
        have f3 : w1.cell? ⟨g2, 3, none⟩ = some (.int .i64 0) := cell_of_blk hzz
        have z3 : w1.frozen? ⟨g2, 3, none⟩ = false := frozen_of_blk hzz
        have f4 : w1.cell? ⟨g2, 4, none⟩ = some (.int .i64 0) := cell_of_blk hzz
        have z4 : w1.frozen? ⟨g2, 4, none⟩ = false := frozen_of_blk hzz
        have f5 : w1.cell? ⟨g2, 5, none⟩ = some (.slice none 0 0) := cell_of_blk hzz
        have z5 : w1.frozen? ⟨g2, 5, none⟩ = false := frozen_of_blk hzz
        have f6 : w1.cell? ⟨g2, 6, none⟩ = some (.slice none 0 0) := cell_of_blk hzz
        have z6 : w1.frozen? ⟨g2, 6, none⟩ = false := frozen_of_blk hzz
        clear hzz
        go_wp2_with fail
        obtain ⟨w9, hw9⟩ : ∃ w9, w9 = (((((((w1.setCell ⟨g2, 0, none⟩ (.int .i64 0)).setCell ⟨g2, 1, none⟩ (.int .i64 0)).setCell ⟨g2, 2, none⟩ (.int .i64 0)).setCell ⟨g2, 3, none⟩ (.int .i64 0)).setCell ⟨g2, 4, none⟩ (.int .i64 0)).setCell ⟨g2, 5, none⟩ (.slice none 0 0)).setCell ⟨g2, 6, none⟩ (.slice none 0 0)) := ⟨_, rfl⟩
        have hq9 := (setCell_blk (j := 6) (setCell_blk (j := 5) (setCell_blk (j := 4) (setCell_blk (j := 3) (setCell_blk (j := 2) (setCell_blk (j := 1) (setCell_blk (j := 0) HRT1.out.z (.int .i64 0)) (.int .i64 0)) (.int .i64 0)) (.int .i64 0)) (.int .i64 0)) (.slice none 0 0)) (.slice none 0 0))
        have hc9 := ((((((((Ch.refl w1 (fun k => k = g2)).setCell ⟨g2, 0, none⟩ (.int .i64 0) rfl).setCell ⟨g2, 1, none⟩ (.int .i64 0) rfl).setCell ⟨g2, 2, none⟩ (.int .i64 0) rfl).setCell ⟨g2, 3, none⟩ (.int .i64 0) rfl).setCell ⟨g2, 4, none⟩ (.int .i64 0) rfl).setCell ⟨g2, 5, none⟩ (.slice none 0 0) rfl).setCell ⟨g2, 6, none⟩ (.slice none 0 0) rfl)
        rw [← hw9] at hq9 hc9 ⊢
        clear hw9 f0 f1 f2 f3 f4 f5 f6 z0 z1 z2 z3 z4 z5 z6
        have y0 : w9.cell? ⟨g2, 0, none⟩ = some (.int .i64 0) := cell_of_blk hq9
        have y1 : w9.cell? ⟨g2, 1, none⟩ = some (.int .i64 0) := cell_of_blk hq9
        have y2 : w9.cell? ⟨g2, 2, none⟩ = some (.int .i64 0) := cell_of_blk hq9
        have y3 : w9.cell? ⟨g2, 3, none⟩ = some (.int .i64 0) := cell_of_blk hq9
        have y4 : w9.cell? ⟨g2, 4, none⟩ = some (.int .i64 0) := cell_of_blk hq9
        have y5 : w9.cell? ⟨g2, 5, none⟩ = some (.slice none 0 0) := cell_of_blk hq9
        have y6 : w9.cell? ⟨g2, 6, none⟩ = some (.slice none 0 0) := cell_of_blk hq9
        have hbz := Below.ch HRT1.out.b hc9 HRT1.out.b.size (fun i hi => by have hi : i = g2 := hi; have := HRT1.out.o; omega)
        have HBZ := Aside0.mk hbz
        clear hq9 hc9 hbz
        refine bodyPost_ret (v := .tuple #[recV zeroRec (.slice none 0 0) (.slice none 0 0), .int .i64 0, .bool false]) ?_ rfl (OneTo.no rfl HNO.out HBZ.out)
        simp [results, Try.results51, go_sem, *]
        rfl
    obtain ⟨m, rfl⟩ := Int.eq_ofNat_of_zero_le hbad.1
    have hml : 8 + m ≤ l.length := by omega
    obtain ⟨M, hM⟩ : ∃ M, M = l.take (8 + m) := ⟨_, rfl⟩
    have hMl : M.length = 8 + m := by rw [hM, List.length_take]; omega
    have HRM : Aside0 (∀ w', Below w.heap.size w w' → Kd.C (Kd.int .u8) w' A M.length M) := ⟨fun w' hw => by rw [hM]; exact Kd.C_take (Kd.C_below HR.out hw) hml⟩
    obtain ⟨S, hS⟩ : ∃ S, S = M.drop 8 := ⟨_, rfl⟩
    have HONE : Aside0 (oneR l = (parseRec S).map (fun x => (x, 8 + m))) := ⟨by
      have e1 : S = (l.drop 8).take m := by rw [hS, hM, List.drop_take, Nat.add_sub_cancel_left]
      have e2 : bytesOf (strOfNums S) = S := bytesOf_str S (fun x hx => HOK.out x (by rw [e1] at hx; exact List.mem_of_mem_drop (List.mem_of_mem_take hx)))
      have hp : pT l = some (strOfNums S, l.drop (8 + m)) := by
        have h2 : 0 ≤ dec8 (l.take 8) ∧ dec8 (l.take 8) + 8 ≤ (l.length : Int) := by rw [← HN.out]; omega
        unfold pT
        rw [if_pos h8, if_pos h2, ← HN.out, Int.toNat_natCast, e1]
      have hs : (strOfNums S).size = m := by rw [size_str, e1, List.length_take, List.length_drop]; omega
      rw [one_at hp, e2, hs]⟩
    have HS := Aside0.mk hS
    have hneg : ¬ ((m : Nat) : Int) < 0 := by omega
    have hbig : ¬ (l.length : Int) - 8 < ((m : Nat) : Int) := by omega
    have hw9 : IntKind.i64.wrap ((8 : Int) + ((m : Nat) : Int)) = 8 + ((m : Nat) : Int) := IntWalk.i64_in _ (by omega)
    have hmc : (8 : Int) + ((m : Nat) : Int) ≤ (c : Int) := by omega
    clear hbad hM hS HPT
    go_wp2_with fail
    obtain ⟨gf, hgf⟩ : ∃ gf, gf = w1.heap.size := ⟨_, rfl⟩
    obtain ⟨wF, hwF⟩ : ∃ wF, wF = w1.alloc (.cells #[.int .i64 0, .int .i64 0, .int .i64 0, .int .i64 0, .int .i64 0, .int .i64 0] 120) := ⟨_, rfl⟩
    have hbF : Below w1.heap.size w1 wF := by rw [hwF]; exact (Below.refl _ _).alloc (Nat.le_refl _) _
    have HF0 : Aside0 (wF.heap[gf]? = some (.cells ((([] : List Int) ++ List.replicate 6 0).map (Value.int .i64)).toArray 120 (0, 0))) := ⟨by rw [hwF, hgf]; exact alloc_at w1 _⟩
    have HRTF := Aside0.mk (HRT1.out.below hbF)
    have hg2f : g2 < gf := by rw [hgf]; exact blk_lt' HRT1.out.z
    have HP0 : Aside0 (parseRec S = nF 6 [] (M.drop 8)) := ⟨by rw [← HS.out]; rfl⟩
    rw [← hgf, ← hwF]
    clear hgf hwF hbF HRT1 hneg hbig hw8 hw9
    have hmm : 8 ≤ M.length := by omega
    go_loopg [6, 9] 6 (fun kq v6 v9 w' => ∃ (i : Nat) (acc : List Int), i + kq = 6 ∧ v9 = .int .i64 i ∧ v6 = .int .i64 ((8 + 8 * i : Nat) : Int) ∧ 8 + 8 * i ≤ M.length ∧ Aside0 (acc.length = i) ∧ Aside0 (parseRec S = nF (6 - i) acc (M.drop (8 + 8 * i))) ∧ Aside0 (w'.heap[gf]? = some (.cells ((acc ++ List.replicate (6 - i) 0).map (Value.int .i64)).toArray 120 (0, 0))) ∧ Aside0 (RT w w' g2))
    case atStart => exact ⟨0, [], by omega, rfl, rfl, hmm, ⟨rfl⟩, HP0, HF0, HRTF⟩
    case round =>
      clear HP0 HF0 HRTF hmm
      obtain ⟨i, acc, hi, rfl, rfl, hiM, HAC, HP, HF, HRT⟩ := hrel
      by_cases hlt : i < 6
      · obtain ⟨q, hq⟩ : ∃ q, q = rdNum M ((8 + 8 * i : Nat) : Int) := ⟨_, rfl⟩
        have HNX := Aside0.mk (nx_ok (G := fun _ => none) (F := fun v => nF (6 - (i + 1)) (acc ++ [v])) q hq hiM)
        have HRN : Aside0 (Calls Try.prog 82 #[.slice A (8 + m) c, .int .i64 ((8 + 8 * i : Nat) : Int)] wr fun e w' => e = .returned (.tuple #[.int .i64 q.1, .int .i64 q.2.1, .bool q.2.2]) ∧ Below wr.heap.size wr w') := ⟨by rw [← hMl]; exact refReadNum_any A c M _ wr (HRM.out _ HRT.out.b) (by omega) (by omega) q hq⟩
        have HPE : Aside0 (parseRec S = nx (fun v => nF (6 - (i + 1)) (acc ++ [v])) (M.drop (8 + 8 * i))) := ⟨by rw [HP.out, show 6 - i = (6 - (i + 1)) + 1 from by omega]; rfl⟩
        obtain ⟨v, at1, ok⟩ := q
        simp only at HRN HNX
        clear hq
        cases ok with
        | false =>
          have HPN := Aside0.mk (HPE.out.trans (HNX.out.2 rfl))
          go_wp2_with fail
          refine HRN.out.mono ?_
          rintro e w5 ⟨rfl, hb5⟩
          have hf5 := (hb5.block _ (blk_lt' HF.out)).trans HF.out
          have x0 : w5.cell? ⟨gf, i, none⟩ = some (.int .i64 0) := by rw [cell_of_blk hf5, List.getElem?_map, List.getElem?_append_right (by rw [HAC.out]; omega), HAC.out, List.getElem?_replicate]; simp; omega
          have x1 : w5.frozen? ⟨gf, i, none⟩ = false := frozen_of_blk hf5
          obtain ⟨w6, hw6⟩ : ∃ w6, w6 = w5.setCell ⟨gf, i, none⟩ (.int .i64 v) := ⟨_, rfl⟩
          have HRT6 : Aside0 (RT w w6 g2) := ⟨(HRT.out.below hb5).ch (S := fun k => k = gf) (by rw [hw6]; exact (Ch.refl w5 (fun k => k = gf)).setCell _ _ rfl) (fun k hk => by have hk : k = gf := hk; omega)⟩
          have HW6 := Aside0.mk hw6
          clear hb5 hf5 hw6
          go_upto_region 11 with (fail)
          rw [← HW6.out]
          clear x0 x1

          have HNO : Aside0 (oneR l = none) := ⟨by rw [HONE.out, HPN.out]; rfl⟩
          have hzz := HRT6.out.z
          have f0 : w6.cell? ⟨g2, 0, none⟩ = some (.int .i64 0) := cell_of_blk hzz
          have z0 : w6.frozen? ⟨g2, 0, none⟩ = false := frozen_of_blk hzz
          have f1 : w6.cell? ⟨g2, 1, none⟩ = some (.int .i64 0) := cell_of_blk hzz
          have z1 : w6.frozen? ⟨g2, 1, none⟩ = false := frozen_of_blk hzz
          have f2 : w6.cell? ⟨g2, 2, none⟩ = some (.int .i64 0) := cell_of_blk hzz
          have z2 : w6.frozen? ⟨g2, 2, none⟩ = false := frozen_of_blk hzz
          have f3 : w6.cell? ⟨g2, 3, none⟩ = some (.int .i64 0) := cell_of_blk hzz
          have z3 : w6.frozen? ⟨g2, 3, none⟩ = false := frozen_of_blk hzz
          have f4 : w6.cell? ⟨g2, 4, none⟩ = some (.int .i64 0) := cell_of_blk hzz
          have z4 : w6.frozen? ⟨g2, 4, none⟩ = false := frozen_of_blk hzz
          have f5 : w6.cell? ⟨g2, 5, none⟩ = some (.slice none 0 0) := cell_of_blk hzz
          have z5 : w6.frozen? ⟨g2, 5, none⟩ = false := frozen_of_blk hzz
          have f6 : w6.cell? ⟨g2, 6, none⟩ = some (.slice none 0 0) := cell_of_blk hzz
          have z6 : w6.frozen? ⟨g2, 6, none⟩ = false := frozen_of_blk hzz
          clear hzz
          go_wp2_with fail
          obtain ⟨w9, hw9⟩ : ∃ w9, w9 = (((((((w6.setCell ⟨g2, 0, none⟩ (.int .i64 0)).setCell ⟨g2, 1, none⟩ (.int .i64 0)).setCell ⟨g2, 2, none⟩ (.int .i64 0)).setCell ⟨g2, 3, none⟩ (.int .i64 0)).setCell ⟨g2, 4, none⟩ (.int .i64 0)).setCell ⟨g2, 5, none⟩ (.slice none 0 0)).setCell ⟨g2, 6, none⟩ (.slice none 0 0)) := ⟨_, rfl⟩
          have hq9 := (setCell_blk (j := 6) (setCell_blk (j := 5) (setCell_blk (j := 4) (setCell_blk (j := 3) (setCell_blk (j := 2) (setCell_blk (j := 1) (setCell_blk (j := 0) HRT6.out.z (.int .i64 0)) (.int .i64 0)) (.int .i64 0)) (.int .i64 0)) (.int .i64 0)) (.slice none 0 0)) (.slice none 0 0))
          have hc9 := ((((((((Ch.refl w6 (fun k => k = g2)).setCell ⟨g2, 0, none⟩ (.int .i64 0) rfl).setCell ⟨g2, 1, none⟩ (.int .i64 0) rfl).setCell ⟨g2, 2, none⟩ (.int .i64 0) rfl).setCell ⟨g2, 3, none⟩ (.int .i64 0) rfl).setCell ⟨g2, 4, none⟩ (.int .i64 0) rfl).setCell ⟨g2, 5, none⟩ (.slice none 0 0) rfl).setCell ⟨g2, 6, none⟩ (.slice none 0 0) rfl)
          rw [← hw9] at hq9 hc9 ⊢
          clear hw9 f0 f1 f2 f3 f4 f5 f6 z0 z1 z2 z3 z4 z5 z6
          have y0 : w9.cell? ⟨g2, 0, none⟩ = some (.int .i64 0) := cell_of_blk hq9
          have y1 : w9.cell? ⟨g2, 1, none⟩ = some (.int .i64 0) := cell_of_blk hq9
          have y2 : w9.cell? ⟨g2, 2, none⟩ = some (.int .i64 0) := cell_of_blk hq9
          have y3 : w9.cell? ⟨g2, 3, none⟩ = some (.int .i64 0) := cell_of_blk hq9
          have y4 : w9.cell? ⟨g2, 4, none⟩ = some (.int .i64 0) := cell_of_blk hq9
          have y5 : w9.cell? ⟨g2, 5, none⟩ = some (.slice none 0 0) := cell_of_blk hq9
          have y6 : w9.cell? ⟨g2, 6, none⟩ = some (.slice none 0 0) := cell_of_blk hq9
          have hbz := Below.ch HRT6.out.b hc9 HRT6.out.b.size (fun i hi => by have hi : i = g2 := hi; have := HRT6.out.o; omega)
          have HBZ := Aside0.mk hbz
          clear hq9 hc9 hbz
          refine bodyPost_ret (v := .tuple #[recV zeroRec (.slice none 0 0) (.slice none 0 0), .int .i64 0, .bool false]) ?_ rfl (OneTo.no rfl HNO.out HBZ.out)
          simp [results, Try.results51, go_sem, *]
          rfl
        | true =>
          obtain ⟨hnx, hat, hlM⟩ := HNX.out.1 rfl
          have hat' : at1 = ((8 + 8 * (i + 1) : Nat) : Int) := hat
          subst hat'
          have HPN : Aside0 (parseRec S = nF (6 - (i + 1)) (acc ++ [v]) (M.drop (8 + 8 * (i + 1)))) := ⟨HPE.out.trans hnx⟩
          have hlM' : 8 + 8 * (i + 1) ≤ M.length := hlM
          clear hnx hat hlM HNX HPE
          go_wp2_with fail
          refine HRN.out.mono ?_
          rintro e w5 ⟨rfl, hb5⟩
          have hf5 := (hb5.block _ (blk_lt' HF.out)).trans HF.out
          have x0 : w5.cell? ⟨gf, i, none⟩ = some (.int .i64 0) := by rw [cell_of_blk hf5, List.getElem?_map, List.getElem?_append_right (by rw [HAC.out]; omega), HAC.out, List.getElem?_replicate]; simp; omega
          have x1 : w5.frozen? ⟨gf, i, none⟩ = false := frozen_of_blk hf5
          have HF6 : Aside0 ((w5.setCell ⟨gf, i, none⟩ (.int .i64 v)).heap[gf]? = some (.cells (((acc ++ [v]) ++ List.replicate (6 - (i + 1)) 0).map (Value.int .i64)).toArray 120 (0, 0))) := ⟨by
            rw [setCell_blk hf5]
            congr 3
            have e1 : List.replicate (6 - i) (0 : Int) = 0 :: List.replicate (6 - (i + 1)) 0 := by rw [show 6 - i = (6 - (i + 1)) + 1 from by omega, List.replicate_succ]
            rw [e1, List.map_append, List.set_append_right _ _ (by rw [List.length_map, HAC.out]; exact Nat.le_refl _), List.length_map, HAC.out, Nat.sub_self]
            simp⟩
          have HRT6 : Aside0 (RT w (w5.setCell ⟨gf, i, none⟩ (.int .i64 v)) g2) := ⟨(HRT.out.below hb5).ch (S := fun k => k = gf) ((Ch.refl w5 (fun k => k = gf)).setCell _ _ rfl) (fun k hk => by have hk : k = gf := hk; omega)⟩
          clear hb5 hf5
          go_wp2_with fail
          go_roundg (6 - (i + 1))
          case measure => omega
          case rel => exact ⟨i + 1, acc ++ [v], by omega, by go_num, rfl, hlM', ⟨by rw [List.length_append, HAC.out]; rfl⟩, HPN, HF6, HRT6⟩
      · obtain rfl : i = 6 := by omega
        have h66 : ¬ (((6 : Nat) : Int)) < 6 := by decide
        obtain ⟨k, p, s, a, r, n, rfl⟩ : ∃ k p s a r n, acc = [k, p, s, a, r, n] := by
          have h := HAC.out
          match acc, h with
          | [k, p, s, a, r, n], _ => exact ⟨k, p, s, a, r, n, rfl⟩
        have HPS : Aside0 (parseRec S = if 0 ≤ n ∧ n ≤ 6 then cSet k p s a r n.toNat [] (M.drop 56) else none) := ⟨HP.out⟩
        have hf := HF.out
        have y0 : wr.cell? ⟨gf, 0, none⟩ = some (.int .i64 k) := cell_of_blk hf
        have y1 : wr.cell? ⟨gf, 1, none⟩ = some (.int .i64 p) := cell_of_blk hf
        have y2 : wr.cell? ⟨gf, 2, none⟩ = some (.int .i64 s) := cell_of_blk hf
        have y3 : wr.cell? ⟨gf, 3, none⟩ = some (.int .i64 a) := cell_of_blk hf
        have y4 : wr.cell? ⟨gf, 4, none⟩ = some (.int .i64 r) := cell_of_blk hf
        have y5 : wr.cell? ⟨gf, 5, none⟩ = some (.int .i64 n) := cell_of_blk hf
        obtain ⟨gx, hgx⟩ : ∃ gx, gx = wr.heap.size := ⟨_, rfl⟩
        obtain ⟨wX, hwX⟩ : ∃ wX, wX = wr.alloc (.cells #[.int .i64 k, .int .i64 p, .int .i64 s, .int .i64 a, .int .i64 r, .slice none 0 0, .slice none 0 0] 64) := ⟨_, rfl⟩
        have hbX : Below wr.heap.size wr wX := by rw [hwX]; exact (Below.refl _ _).alloc (Nat.le_refl _) _
        have HOT : Aside0 (OT w wX g2 gf gx n (xC k p s a r zv zv)) := ⟨⟨HRT.out.below hbX, (hbX.cell (World.block_lt_of_cell? wr _ y5)).trans y5, by rw [hwX, hgx]; exact alloc_at wr _, hg2f, by rw [hgx]; exact blk_lt' hf⟩⟩
        have HWX := Aside0.mk (And.intro hwX hgx)
        have h56 : 56 ≤ M.length := by omega
        clear hf hgx hwX hbX HP HF HRT HAC hiM
        go_upto_region 13 with (fail)
        rw [← HWX.out.2, ← HWX.out.1]
        clear y0 y1 y2 y3 y4 y5 h66
        have x5 := HOT.out.f5
        have HRTX := Aside0.mk HOT.out.rt
        by_cases hbad : 0 ≤ n ∧ n ≤ 10
        case neg =>
          by_cases hneg : n < 0
          case' pos =>
            have HNO0 : Aside0 (oneR l = none) := ⟨by rw [HONE.out, HPS.out, if_neg (fun h => by omega)]; rfl⟩
            clear hbad
          case' neg =>
            have HNO0 : Aside0 (oneR l = none) := ⟨by rw [HONE.out, HPS.out, if_neg (fun h => by omega)]; rfl⟩
            have hbig : 10 < n := by omega
            clear hbad
          all_goals
            have HNO : Aside0 (oneR l = none) := ⟨HNO0.out⟩
            have hzz := HRTX.out.z
            have f0 : wX.cell? ⟨g2, 0, none⟩ = some (.int .i64 0) := cell_of_blk hzz
            have z0 : wX.frozen? ⟨g2, 0, none⟩ = false := frozen_of_blk hzz
            have f1 : wX.cell? ⟨g2, 1, none⟩ = some (.int .i64 0) := cell_of_blk hzz
            have z1 : wX.frozen? ⟨g2, 1, none⟩ = false := frozen_of_blk hzz
            have f2 : wX.cell? ⟨g2, 2, none⟩ = some (.int .i64 0) := cell_of_blk hzz
            have z2 : wX.frozen? ⟨g2, 2, none⟩ = false := frozen_of_blk hzz
            have f3 : wX.cell? ⟨g2, 3, none⟩ = some (.int .i64 0) := cell_of_blk hzz
            have z3 : wX.frozen? ⟨g2, 3, none⟩ = false := frozen_of_blk hzz
            have f4 : wX.cell? ⟨g2, 4, none⟩ = some (.int .i64 0) := cell_of_blk hzz
            have z4 : wX.frozen? ⟨g2, 4, none⟩ = false := frozen_of_blk hzz
            have f5 : wX.cell? ⟨g2, 5, none⟩ = some (.slice none 0 0) := cell_of_blk hzz
            have z5 : wX.frozen? ⟨g2, 5, none⟩ = false := frozen_of_blk hzz
            have f6 : wX.cell? ⟨g2, 6, none⟩ = some (.slice none 0 0) := cell_of_blk hzz
            have z6 : wX.frozen? ⟨g2, 6, none⟩ = false := frozen_of_blk hzz
            clear hzz
            go_wp2_with fail
            obtain ⟨w9, hw9⟩ : ∃ w9, w9 = (((((((wX.setCell ⟨g2, 0, none⟩ (.int .i64 0)).setCell ⟨g2, 1, none⟩ (.int .i64 0)).setCell ⟨g2, 2, none⟩ (.int .i64 0)).setCell ⟨g2, 3, none⟩ (.int .i64 0)).setCell ⟨g2, 4, none⟩ (.int .i64 0)).setCell ⟨g2, 5, none⟩ (.slice none 0 0)).setCell ⟨g2, 6, none⟩ (.slice none 0 0)) := ⟨_, rfl⟩
            have hq9 := (setCell_blk (j := 6) (setCell_blk (j := 5) (setCell_blk (j := 4) (setCell_blk (j := 3) (setCell_blk (j := 2) (setCell_blk (j := 1) (setCell_blk (j := 0) HRTX.out.z (.int .i64 0)) (.int .i64 0)) (.int .i64 0)) (.int .i64 0)) (.int .i64 0)) (.slice none 0 0)) (.slice none 0 0))
            have hc9 := ((((((((Ch.refl wX (fun k => k = g2)).setCell ⟨g2, 0, none⟩ (.int .i64 0) rfl).setCell ⟨g2, 1, none⟩ (.int .i64 0) rfl).setCell ⟨g2, 2, none⟩ (.int .i64 0) rfl).setCell ⟨g2, 3, none⟩ (.int .i64 0) rfl).setCell ⟨g2, 4, none⟩ (.int .i64 0) rfl).setCell ⟨g2, 5, none⟩ (.slice none 0 0) rfl).setCell ⟨g2, 6, none⟩ (.slice none 0 0) rfl)
            rw [← hw9] at hq9 hc9 ⊢
            clear hw9 f0 f1 f2 f3 f4 f5 f6 z0 z1 z2 z3 z4 z5 z6
            have y0 : w9.cell? ⟨g2, 0, none⟩ = some (.int .i64 0) := cell_of_blk hq9
            have y1 : w9.cell? ⟨g2, 1, none⟩ = some (.int .i64 0) := cell_of_blk hq9
            have y2 : w9.cell? ⟨g2, 2, none⟩ = some (.int .i64 0) := cell_of_blk hq9
            have y3 : w9.cell? ⟨g2, 3, none⟩ = some (.int .i64 0) := cell_of_blk hq9
            have y4 : w9.cell? ⟨g2, 4, none⟩ = some (.int .i64 0) := cell_of_blk hq9
            have y5 : w9.cell? ⟨g2, 5, none⟩ = some (.slice none 0 0) := cell_of_blk hq9
            have y6 : w9.cell? ⟨g2, 6, none⟩ = some (.slice none 0 0) := cell_of_blk hq9
            have hbz := Below.ch HRTX.out.b hc9 HRTX.out.b.size (fun i hi => by have hi : i = g2 := hi; have := HRTX.out.o; omega)
            have HBZ := Aside0.mk hbz
            clear hq9 hc9 hbz
            refine bodyPost_ret (v := .tuple #[recV zeroRec (.slice none 0 0) (.slice none 0 0), .int .i64 0, .bool false]) ?_ rfl (OneTo.no rfl HNO.out HBZ.out)
            simp [results, Try.results51, go_sem, *]
            rfl
        obtain ⟨nn, rfl⟩ := Int.eq_ofNat_of_zero_le hbad.1
        have hnn : nn ≤ 10 := by omega
        have hneg : ¬ ((nn : Nat) : Int) < 0 := by omega
        have hbig : ¬ (10 : Int) < ((nn : Nat) : Int) := by omega
        have HPI : Aside0 (PI S nn (cSet k p s a r (nn - 0) []) (M.drop 56)) := ⟨⟨fun h => by rw [HPS.out, if_pos ⟨by omega, h⟩, Int.toNat_natCast, Nat.sub_zero], fun h => by rw [HPS.out, if_neg (fun h2 => by omega)]⟩⟩
        clear hbad HPS
        go_wp2_with fail
        clear x5 hneg hbig
        go_loopg [6, 11] nn (fun kq v6 v11 w' => ∃ (j at_ : Nat) (X : List Int) (A5 : Option Addr) (n5 : Nat), j + kq = nn ∧ v11 = .int .i64 j ∧ v6 = .int .i64 at_ ∧ at_ ≤ M.length ∧ Aside0 (X.length = j) ∧ Aside0 (PI S nn (cSet k p s a r (nn - j) X) (M.drop at_)) ∧ Aside0 (OT w w' g2 gf gx nn (xC k p s a r (.slice A5 j n5) zv)) ∧ Aside0 (Own kI 3 w' (gx + 1) (.slice A5 j n5) X))
        case atStart => exact ⟨0, 56, [], none, 0, by omega, rfl, rfl, h56, ⟨rfl⟩, HPI, HOT, ⟨Own.nil _ _ _ _⟩⟩
        case round =>
          clear HPI HOT HRTX h56
          obtain ⟨j, at_, X, A5, n5, hj, rfl, rfl, hat, HXL, HPI, HOT, HO⟩ := hrel
          have x5 := HOT.out.f5
          by_cases hlt : j < nn
          · obtain ⟨q, hq⟩ : ∃ q, q = rdNum M ((at_ : Nat) : Int) := ⟨_, rfl⟩
            have HNX := Aside0.mk (nx_ok (G := fun _ => none) (F := fun v => cSet k p s a r (nn - (j + 1)) (X ++ [v])) q hq hat)
            have HRN : Aside0 (Calls Try.prog 82 #[.slice A (8 + m) c, .int .i64 ((at_ : Nat) : Int)] wr fun e w' => e = .returned (.tuple #[.int .i64 q.1, .int .i64 q.2.1, .bool q.2.2]) ∧ Below wr.heap.size wr w') := ⟨by rw [← hMl]; exact refReadNum_any A c M _ wr (HRM.out _ HOT.out.rt.b) (by omega) (by omega) q hq⟩
            have HPE : Aside0 (PI S nn (nx (fun v => cSet k p s a r (nn - (j + 1)) (X ++ [v]))) (M.drop at_)) := ⟨HPI.out.to (by rw [show nn - j = (nn - (j + 1)) + 1 from by omega]; rfl)⟩
            obtain ⟨v, at1, ok⟩ := q
            simp only at HRN HNX
            clear hq
            have hjI : (j : Int) < (nn : Int) := by omega
            cases ok with
            | false =>
              have HNO0 : Aside0 (oneR l = none) := ⟨by rw [HONE.out, HPE.out.none (HNX.out.2 rfl)]; rfl⟩
              go_wp2_with fail
              refine HRN.out.mono ?_
              rintro e w5 ⟨rfl, hb5⟩
              have HRT6 := Aside0.mk (HOT.out.rt.below hb5)
              clear hb5 x5
              go_upto_region 20 with (fail)
              have HNO : Aside0 (oneR l = none) := ⟨HNO0.out⟩
              have hzz := HRT6.out.z
              have f0 : w5.cell? ⟨g2, 0, none⟩ = some (.int .i64 0) := cell_of_blk hzz
              have z0 : w5.frozen? ⟨g2, 0, none⟩ = false := frozen_of_blk hzz
              have f1 : w5.cell? ⟨g2, 1, none⟩ = some (.int .i64 0) := cell_of_blk hzz
              have z1 : w5.frozen? ⟨g2, 1, none⟩ = false := frozen_of_blk hzz
              have f2 : w5.cell? ⟨g2, 2, none⟩ = some (.int .i64 0) := cell_of_blk hzz
              have z2 : w5.frozen? ⟨g2, 2, none⟩ = false := frozen_of_blk hzz
              have f3 : w5.cell? ⟨g2, 3, none⟩ = some (.int .i64 0) := cell_of_blk hzz
              have z3 : w5.frozen? ⟨g2, 3, none⟩ = false := frozen_of_blk hzz
              have f4 : w5.cell? ⟨g2, 4, none⟩ = some (.int .i64 0) := cell_of_blk hzz
              have z4 : w5.frozen? ⟨g2, 4, none⟩ = false := frozen_of_blk hzz
              have f5 : w5.cell? ⟨g2, 5, none⟩ = some (.slice none 0 0) := cell_of_blk hzz
              have z5 : w5.frozen? ⟨g2, 5, none⟩ = false := frozen_of_blk hzz
              have f6 : w5.cell? ⟨g2, 6, none⟩ = some (.slice none 0 0) := cell_of_blk hzz
              have z6 : w5.frozen? ⟨g2, 6, none⟩ = false := frozen_of_blk hzz
              clear hzz
              go_wp2_with fail
              obtain ⟨w9, hw9⟩ : ∃ w9, w9 = (((((((w5.setCell ⟨g2, 0, none⟩ (.int .i64 0)).setCell ⟨g2, 1, none⟩ (.int .i64 0)).setCell ⟨g2, 2, none⟩ (.int .i64 0)).setCell ⟨g2, 3, none⟩ (.int .i64 0)).setCell ⟨g2, 4, none⟩ (.int .i64 0)).setCell ⟨g2, 5, none⟩ (.slice none 0 0)).setCell ⟨g2, 6, none⟩ (.slice none 0 0)) := ⟨_, rfl⟩
              have hq9 := (setCell_blk (j := 6) (setCell_blk (j := 5) (setCell_blk (j := 4) (setCell_blk (j := 3) (setCell_blk (j := 2) (setCell_blk (j := 1) (setCell_blk (j := 0) HRT6.out.z (.int .i64 0)) (.int .i64 0)) (.int .i64 0)) (.int .i64 0)) (.int .i64 0)) (.slice none 0 0)) (.slice none 0 0))
              have hc9 := ((((((((Ch.refl w5 (fun k => k = g2)).setCell ⟨g2, 0, none⟩ (.int .i64 0) rfl).setCell ⟨g2, 1, none⟩ (.int .i64 0) rfl).setCell ⟨g2, 2, none⟩ (.int .i64 0) rfl).setCell ⟨g2, 3, none⟩ (.int .i64 0) rfl).setCell ⟨g2, 4, none⟩ (.int .i64 0) rfl).setCell ⟨g2, 5, none⟩ (.slice none 0 0) rfl).setCell ⟨g2, 6, none⟩ (.slice none 0 0) rfl)
              rw [← hw9] at hq9 hc9 ⊢
              clear hw9 f0 f1 f2 f3 f4 f5 f6 z0 z1 z2 z3 z4 z5 z6
              have y0 : w9.cell? ⟨g2, 0, none⟩ = some (.int .i64 0) := cell_of_blk hq9
              have y1 : w9.cell? ⟨g2, 1, none⟩ = some (.int .i64 0) := cell_of_blk hq9
              have y2 : w9.cell? ⟨g2, 2, none⟩ = some (.int .i64 0) := cell_of_blk hq9
              have y3 : w9.cell? ⟨g2, 3, none⟩ = some (.int .i64 0) := cell_of_blk hq9
              have y4 : w9.cell? ⟨g2, 4, none⟩ = some (.int .i64 0) := cell_of_blk hq9
              have y5 : w9.cell? ⟨g2, 5, none⟩ = some (.slice none 0 0) := cell_of_blk hq9
              have y6 : w9.cell? ⟨g2, 6, none⟩ = some (.slice none 0 0) := cell_of_blk hq9
              have hbz := Below.ch HRT6.out.b hc9 HRT6.out.b.size (fun i hi => by have hi : i = g2 := hi; have := HRT6.out.o; omega)
              have HBZ := Aside0.mk hbz
              clear hq9 hc9 hbz
              refine bodyPost_ret (v := .tuple #[recV zeroRec (.slice none 0 0) (.slice none 0 0), .int .i64 0, .bool false]) ?_ rfl (OneTo.no rfl HNO.out HBZ.out)
              simp [results, Try.results51, go_sem, *]
              rfl
            | true =>
              obtain ⟨hnx, hat1, hlM⟩ := HNX.out.1 rfl
              have hat' : at1 = ((at_ + 8 : Nat) : Int) := hat1
              subst hat'
              have HPN : Aside0 (PI S nn (cSet k p s a r (nn - (j + 1)) (X ++ [v])) (M.drop (at_ + 8))) := ⟨HPE.out.to hnx⟩
              have hlM' : at_ + 8 ≤ M.length := hlM
              clear hnx hat1 hlM HNX HPE
              go_wp2_with fail
              refine HRN.out.mono ?_
              rintro e w5 ⟨rfl, hb5⟩
              have HOT5 := Aside0.mk (HOT.out.below hb5)
              have HO5 := Aside0.mk (HO.out.below hb5)
              clear hb5 x5
              have HAPP : Aside0 (∀ ty, Runs Try.prog (Builtin.append_ #[31, 31] ty #[.slice A5 j n5, .slice (some ⟨w5.heap.size, 0, none⟩) 1 1]) (w5.alloc (.cells #[.int .i64 v] 3)) fun vv w7 => ∃ A7 n7, vv = .slice A7 (j + 1) n7 ∧ Aside0 (OT w (w7.setCell ⟨gx, 5, none⟩ (.slice A7 (j + 1) n7)) g2 gf gx nn (xC k p s a r (.slice A7 (j + 1) n7) zv) ∧ Own kI 3 (w7.setCell ⟨gx, 5, none⟩ (.slice A7 (j + 1) n7)) (gx + 1) (.slice A7 (j + 1) n7) (X ++ [v])) ∧ w7.cell? ⟨gx, 5, none⟩ = some (.slice A5 j n5) ∧ w7.frozen? ⟨gx, 5, none⟩ = false) := ⟨fun ty => by
                have hgx5 := blk_lt' HOT5.out.x
                refine (append_one_runs Try.prog (flat_int .i64) 31 ty _ 8 Try.underlying31 info_int rfl (by decide) (x := v) (cs := [.int .i64 v]) HO5.out rfl (by omega) (by have := HXL.out; omega) (by have := HXL.out; omega) 3 _ rfl _ rfl).mono ?_
                rintro vv w7 ⟨hO7, hg7⟩
                obtain ⟨A7, n7, rfl, _, _⟩ := hO7.reads
                have hl7 : (X ++ [v]).length = j + 1 := by rw [List.length_append, HXL.out]; rfl
                rw [hl7] at hO7
                rw [hl7]
                have hc7 := ch_app hg7 HO5.out.base_
                have hT7 := HOT5.out.ch hc7 (fun i e => by have e : gx + 1 ≤ i := e; omega)
                have hcs : Ch w7 (w7.setCell ⟨gx, 5, none⟩ (.slice A7 (j + 1) n7)) (fun i => i = gx) := (Ch.refl w7 (fun i => i = gx)).setCell ⟨gx, 5, none⟩ _ rfl
                exact ⟨A7, n7, rfl, ⟨hT7.put 5 _, hO7.ch (flat_int .i64) hcs (fun i hi e => by have := hO7.base_ i hi; have e : i = gx := e; omega)⟩, cell_of_blk hT7.x, frozen_of_blk hT7.x⟩⟩
              have x6 : w5.cell? ⟨gx, 5, none⟩ = some (.slice A5 j n5) := cell_of_blk HOT5.out.x
              go_wp2_with (at_builtin; refine wpList_append_runs rfl _ _ _ _ rfl _ _ rfl rfl (HAPP.out _) ?_; rintro _ w7 ⟨A7, n7, rfl, hALL, q7, z7⟩)
              obtain ⟨w9, hw9⟩ : ∃ w9, w9 = w7.setCell ⟨gx, 5, none⟩ (.slice A7 (j + 1) n7) := ⟨_, rfl⟩
              rw [← hw9] at hALL ⊢
              clear hw9 q7 z7 x6
              go_wp2_with fail
              go_roundg (nn - (j + 1))
              case measure => omega
              case rel => exact ⟨j + 1, at_ + 8, X ++ [v], A7, n7, by omega, by go_num, rfl, hlM', ⟨by rw [List.length_append, HXL.out]; rfl⟩, HPN, ⟨hALL.out.1⟩, ⟨hALL.out.2⟩⟩
          · obtain rfl : j = nn := by omega
            have HPM : Aside0 (PI S j (cMany k p s a r X) (M.drop at_)) := ⟨HPI.out.to (by rw [Nat.sub_self]; rfl)⟩
            obtain ⟨q, hq⟩ : ∃ q, q = rdNum M ((at_ : Nat) : Int) := ⟨_, rfl⟩
            have HNX := Aside0.mk (nx_ok (G := fun _ => none) (F := fun n l => if 0 ≤ n ∧ n ≤ (40 : Int) then cPairs (fun ps => ⟨k, p, s, a, r, X, ps⟩) n.toNat [] l else none) q hq hat)
            have HRN : Aside0 (Calls Try.prog 82 #[.slice A (8 + m) c, .int .i64 ((at_ : Nat) : Int)] wr fun e w' => e = .returned (.tuple #[.int .i64 q.1, .int .i64 q.2.1, .bool q.2.2]) ∧ Below wr.heap.size wr w') := ⟨by rw [← hMl]; exact refReadNum_any A c M _ wr (HRM.out _ HOT.out.rt.b) (by omega) (by omega) q hq⟩
            obtain ⟨n2, at1, ok⟩ := q
            simp only at HRN HNX
            clear hq HPI
            cases ok with
            | false =>
              have HNO0 : Aside0 (oneR l = none) := ⟨by rw [HONE.out, HPM.out.none (HNX.out.2 rfl)]; rfl⟩
              go_wp2_with fail
              refine HRN.out.mono ?_
              rintro e w5 ⟨rfl, hb5⟩
              have HRT6 := Aside0.mk (HOT.out.rt.below hb5)
              clear hb5 x5
              go_upto_region 25 with (fail)
              have HNO : Aside0 (oneR l = none) := ⟨HNO0.out⟩
              have hzz := HRT6.out.z
              have f0 : w5.cell? ⟨g2, 0, none⟩ = some (.int .i64 0) := cell_of_blk hzz
              have z0 : w5.frozen? ⟨g2, 0, none⟩ = false := frozen_of_blk hzz
              have f1 : w5.cell? ⟨g2, 1, none⟩ = some (.int .i64 0) := cell_of_blk hzz
              have z1 : w5.frozen? ⟨g2, 1, none⟩ = false := frozen_of_blk hzz
              have f2 : w5.cell? ⟨g2, 2, none⟩ = some (.int .i64 0) := cell_of_blk hzz
              have z2 : w5.frozen? ⟨g2, 2, none⟩ = false := frozen_of_blk hzz
              have f3 : w5.cell? ⟨g2, 3, none⟩ = some (.int .i64 0) := cell_of_blk hzz
              have z3 : w5.frozen? ⟨g2, 3, none⟩ = false := frozen_of_blk hzz
              have f4 : w5.cell? ⟨g2, 4, none⟩ = some (.int .i64 0) := cell_of_blk hzz
              have z4 : w5.frozen? ⟨g2, 4, none⟩ = false := frozen_of_blk hzz
              have f5 : w5.cell? ⟨g2, 5, none⟩ = some (.slice none 0 0) := cell_of_blk hzz
              have z5 : w5.frozen? ⟨g2, 5, none⟩ = false := frozen_of_blk hzz
              have f6 : w5.cell? ⟨g2, 6, none⟩ = some (.slice none 0 0) := cell_of_blk hzz
              have z6 : w5.frozen? ⟨g2, 6, none⟩ = false := frozen_of_blk hzz
              clear hzz
              go_wp2_with fail
              obtain ⟨w9, hw9⟩ : ∃ w9, w9 = (((((((w5.setCell ⟨g2, 0, none⟩ (.int .i64 0)).setCell ⟨g2, 1, none⟩ (.int .i64 0)).setCell ⟨g2, 2, none⟩ (.int .i64 0)).setCell ⟨g2, 3, none⟩ (.int .i64 0)).setCell ⟨g2, 4, none⟩ (.int .i64 0)).setCell ⟨g2, 5, none⟩ (.slice none 0 0)).setCell ⟨g2, 6, none⟩ (.slice none 0 0)) := ⟨_, rfl⟩
              have hq9 := (setCell_blk (j := 6) (setCell_blk (j := 5) (setCell_blk (j := 4) (setCell_blk (j := 3) (setCell_blk (j := 2) (setCell_blk (j := 1) (setCell_blk (j := 0) HRT6.out.z (.int .i64 0)) (.int .i64 0)) (.int .i64 0)) (.int .i64 0)) (.int .i64 0)) (.slice none 0 0)) (.slice none 0 0))
              have hc9 := ((((((((Ch.refl w5 (fun k => k = g2)).setCell ⟨g2, 0, none⟩ (.int .i64 0) rfl).setCell ⟨g2, 1, none⟩ (.int .i64 0) rfl).setCell ⟨g2, 2, none⟩ (.int .i64 0) rfl).setCell ⟨g2, 3, none⟩ (.int .i64 0) rfl).setCell ⟨g2, 4, none⟩ (.int .i64 0) rfl).setCell ⟨g2, 5, none⟩ (.slice none 0 0) rfl).setCell ⟨g2, 6, none⟩ (.slice none 0 0) rfl)
              rw [← hw9] at hq9 hc9 ⊢
              clear hw9 f0 f1 f2 f3 f4 f5 f6 z0 z1 z2 z3 z4 z5 z6
              have y0 : w9.cell? ⟨g2, 0, none⟩ = some (.int .i64 0) := cell_of_blk hq9
              have y1 : w9.cell? ⟨g2, 1, none⟩ = some (.int .i64 0) := cell_of_blk hq9
              have y2 : w9.cell? ⟨g2, 2, none⟩ = some (.int .i64 0) := cell_of_blk hq9
              have y3 : w9.cell? ⟨g2, 3, none⟩ = some (.int .i64 0) := cell_of_blk hq9
              have y4 : w9.cell? ⟨g2, 4, none⟩ = some (.int .i64 0) := cell_of_blk hq9
              have y5 : w9.cell? ⟨g2, 5, none⟩ = some (.slice none 0 0) := cell_of_blk hq9
              have y6 : w9.cell? ⟨g2, 6, none⟩ = some (.slice none 0 0) := cell_of_blk hq9
              have hbz := Below.ch HRT6.out.b hc9 HRT6.out.b.size (fun i hi => by have hi : i = g2 := hi; have := HRT6.out.o; omega)
              have HBZ := Aside0.mk hbz
              clear hq9 hc9 hbz
              refine bodyPost_ret (v := .tuple #[recV zeroRec (.slice none 0 0) (.slice none 0 0), .int .i64 0, .bool false]) ?_ rfl (OneTo.no rfl HNO.out HBZ.out)
              simp [results, Try.results51, go_sem, *]
              rfl
            | true =>
              obtain ⟨hnx, hat1, hlM⟩ := HNX.out.1 rfl
              have hat' : at1 = ((at_ + 8 : Nat) : Int) := hat1
              subst hat'
              have hnx' : cMany k p s a r X (M.drop at_) = if 0 ≤ n2 ∧ n2 ≤ (40 : Int) then cPairs (fun ps => ⟨k, p, s, a, r, X, ps⟩) n2.toNat [] (M.drop (at_ + 8)) else none := hnx
              have HNX2 := Aside0.mk hnx'
              have hlM' : at_ + 8 ≤ M.length := hlM
              clear hnx hnx' hat1 hlM HNX
              by_cases hbad : 0 ≤ n2 ∧ n2 ≤ 40
              case neg =>
                have HNO0 : Aside0 (oneR l = none) := ⟨by rw [HONE.out, HPM.out.none (by rw [HNX2.out, if_neg hbad])]; rfl⟩
                by_cases hneg : n2 < 0
                case' pos =>
                  clear hbad
                case' neg =>
                  have hbig : 40 < n2 := by omega
                  clear hbad
                all_goals
                  go_wp2_with fail
                  refine HRN.out.mono ?_
                  rintro e w5 ⟨rfl, hb5⟩
                  have HRT6 := Aside0.mk (HOT.out.rt.below hb5)
                  clear hb5 x5
                  go_upto_region 25 with (fail)
                  have HNO : Aside0 (oneR l = none) := ⟨HNO0.out⟩
                  have hzz := HRT6.out.z
                  have f0 : w5.cell? ⟨g2, 0, none⟩ = some (.int .i64 0) := cell_of_blk hzz
                  have z0 : w5.frozen? ⟨g2, 0, none⟩ = false := frozen_of_blk hzz
                  have f1 : w5.cell? ⟨g2, 1, none⟩ = some (.int .i64 0) := cell_of_blk hzz
                  have z1 : w5.frozen? ⟨g2, 1, none⟩ = false := frozen_of_blk hzz
                  have f2 : w5.cell? ⟨g2, 2, none⟩ = some (.int .i64 0) := cell_of_blk hzz
                  have z2 : w5.frozen? ⟨g2, 2, none⟩ = false := frozen_of_blk hzz
                  have f3 : w5.cell? ⟨g2, 3, none⟩ = some (.int .i64 0) := cell_of_blk hzz
                  have z3 : w5.frozen? ⟨g2, 3, none⟩ = false := frozen_of_blk hzz
                  have f4 : w5.cell? ⟨g2, 4, none⟩ = some (.int .i64 0) := cell_of_blk hzz
                  have z4 : w5.frozen? ⟨g2, 4, none⟩ = false := frozen_of_blk hzz
                  have f5 : w5.cell? ⟨g2, 5, none⟩ = some (.slice none 0 0) := cell_of_blk hzz
                  have z5 : w5.frozen? ⟨g2, 5, none⟩ = false := frozen_of_blk hzz
                  have f6 : w5.cell? ⟨g2, 6, none⟩ = some (.slice none 0 0) := cell_of_blk hzz
                  have z6 : w5.frozen? ⟨g2, 6, none⟩ = false := frozen_of_blk hzz
                  clear hzz
                  go_wp2_with fail
                  obtain ⟨w9, hw9⟩ : ∃ w9, w9 = (((((((w5.setCell ⟨g2, 0, none⟩ (.int .i64 0)).setCell ⟨g2, 1, none⟩ (.int .i64 0)).setCell ⟨g2, 2, none⟩ (.int .i64 0)).setCell ⟨g2, 3, none⟩ (.int .i64 0)).setCell ⟨g2, 4, none⟩ (.int .i64 0)).setCell ⟨g2, 5, none⟩ (.slice none 0 0)).setCell ⟨g2, 6, none⟩ (.slice none 0 0)) := ⟨_, rfl⟩
                  have hq9 := (setCell_blk (j := 6) (setCell_blk (j := 5) (setCell_blk (j := 4) (setCell_blk (j := 3) (setCell_blk (j := 2) (setCell_blk (j := 1) (setCell_blk (j := 0) HRT6.out.z (.int .i64 0)) (.int .i64 0)) (.int .i64 0)) (.int .i64 0)) (.int .i64 0)) (.slice none 0 0)) (.slice none 0 0))
                  have hc9 := ((((((((Ch.refl w5 (fun k => k = g2)).setCell ⟨g2, 0, none⟩ (.int .i64 0) rfl).setCell ⟨g2, 1, none⟩ (.int .i64 0) rfl).setCell ⟨g2, 2, none⟩ (.int .i64 0) rfl).setCell ⟨g2, 3, none⟩ (.int .i64 0) rfl).setCell ⟨g2, 4, none⟩ (.int .i64 0) rfl).setCell ⟨g2, 5, none⟩ (.slice none 0 0) rfl).setCell ⟨g2, 6, none⟩ (.slice none 0 0) rfl)
                  rw [← hw9] at hq9 hc9 ⊢
                  clear hw9 f0 f1 f2 f3 f4 f5 f6 z0 z1 z2 z3 z4 z5 z6
                  have y0 : w9.cell? ⟨g2, 0, none⟩ = some (.int .i64 0) := cell_of_blk hq9
                  have y1 : w9.cell? ⟨g2, 1, none⟩ = some (.int .i64 0) := cell_of_blk hq9
                  have y2 : w9.cell? ⟨g2, 2, none⟩ = some (.int .i64 0) := cell_of_blk hq9
                  have y3 : w9.cell? ⟨g2, 3, none⟩ = some (.int .i64 0) := cell_of_blk hq9
                  have y4 : w9.cell? ⟨g2, 4, none⟩ = some (.int .i64 0) := cell_of_blk hq9
                  have y5 : w9.cell? ⟨g2, 5, none⟩ = some (.slice none 0 0) := cell_of_blk hq9
                  have y6 : w9.cell? ⟨g2, 6, none⟩ = some (.slice none 0 0) := cell_of_blk hq9
                  have hbz := Below.ch HRT6.out.b hc9 HRT6.out.b.size (fun i hi => by have hi : i = g2 := hi; have := HRT6.out.o; omega)
                  have HBZ := Aside0.mk hbz
                  clear hq9 hc9 hbz
                  refine bodyPost_ret (v := .tuple #[recV zeroRec (.slice none 0 0) (.slice none 0 0), .int .i64 0, .bool false]) ?_ rfl (OneTo.no rfl HNO.out HBZ.out)
                  simp [results, Try.results51, go_sem, *]
                  rfl
              obtain ⟨m2, rfl⟩ := Int.eq_ofNat_of_zero_le hbad.1
              have hm40 : m2 ≤ 40 := by omega
              have hneg : ¬ ((m2 : Nat) : Int) < 0 := by omega
              have hbig : ¬ (40 : Int) < ((m2 : Nat) : Int) := by omega
              have HPC : Aside0 (PI S j (cPairs (fun ps => ⟨k, p, s, a, r, X, ps⟩) (m2 - 0) []) (M.drop (at_ + 8))) := ⟨HPM.out.to (by rw [HNX2.out, if_pos hbad, Int.toNat_natCast, Nat.sub_zero])⟩
              clear hbad HPM HNX2
              go_wp2_with fail
              refine HRN.out.mono ?_
              rintro e w8 ⟨rfl, hb8⟩
              have HOT8 := Aside0.mk (HOT.out.below hb8)
              have HO8 := Aside0.mk (HO.out.below hb8)
              obtain ⟨s2, hs2⟩ : ∃ s2, s2 = w8.heap.size := ⟨_, rfl⟩
              have HX2 : Aside0 (gx + 1 ≤ s2 ∧ s2 = w8.heap.size) := ⟨by rw [hs2]; exact blk_lt' HOT8.out.x, hs2⟩
              clear hb8 x5 HOT HO hs2
              go_wp2_with fail
              go_loopg [6, 16] m2 (fun kq v6 v16 w' => ∃ (i p1 : Nat) (Y : List PairD) (A6 : Option Addr) (n6 : Nat), i + kq = m2 ∧ v16 = .int .i64 i ∧ v6 = .int .i64 p1 ∧ p1 ≤ M.length ∧ Aside0 (Y.length = i) ∧ Aside0 (PI S j (cPairs (fun ps => ⟨k, p, s, a, r, X, ps⟩) (m2 - i) Y) (M.drop p1)) ∧ Aside0 (OT w w' g2 gf gx j (xC k p s a r (.slice A5 j n5) (.slice A6 i n6))) ∧ Aside0 (Own kPair 114 w' s2 (.slice A6 i n6) Y) ∧ Aside0 (Ch w8 w' (fun i => i = gx)))
              case atStart => exact ⟨0, at_ + 8, [], none, 0, by omega, rfl, rfl, hlM', ⟨rfl⟩, HPC, HOT8, ⟨Own.nil _ _ _ _⟩, ⟨Ch.refl _ _⟩⟩
              case round =>
                clear HPC HOT8 hlM'
                obtain ⟨i, p1, Y, A6, n6, hi, rfl, rfl, hp1, HYL, HPI, HOT, HO, HCH⟩ := hrel
                by_cases hlt2 : i < m2
                · obtain ⟨q, hq⟩ : ∃ q, q = rdText M ((p1 : Nat) : Int) := ⟨_, rfl⟩
                  have HTX := Aside0.mk (nt_ok (F := fun x => nt (fun y => cPairs (fun ps => ⟨k, p, s, a, r, X, ps⟩) (m2 - (i + 1)) (Y ++ [⟨x, y⟩]))) q hq hp1)
                  have HRT1 : Aside0 (∀ w', Below wr.heap.size wr w' → Calls Try.prog 83 #[.slice A (8 + m) c, .int .i64 ((p1 : Nat) : Int)] w' fun e w'' => e = .returned (.tuple #[.string q.1, .int .i64 q.2.1, .bool q.2.2]) ∧ Below w'.heap.size w' w'') := ⟨fun w' hw => by rw [← hMl]; exact refReadText_any A c M _ w' (HRM.out _ (two_andj _ _ _ HOT.out.rt.b hw)) (by omega) (by omega) q hq⟩
                  have HRT2 : Aside0 (∀ (p2 : Int) q2, p2 ≤ 1000000 → q2 = rdText M p2 → ∀ w', Below wr.heap.size wr w' → Calls Try.prog 83 #[.slice A (8 + m) c, .int .i64 p2] w' fun e w'' => e = .returned (.tuple #[.string q2.1, .int .i64 q2.2.1, .bool q2.2.2]) ∧ Below w'.heap.size w' w'') := ⟨fun p2 q2 hp hq2 w' hw => by rw [← hMl]; exact refReadText_any A c M p2 w' (HRM.out _ (two_andj _ _ _ HOT.out.rt.b hw)) (by omega) (by omega) q2 hq2⟩
                  have HPE : Aside0 (PI S j (nt (fun x => nt (fun y => cPairs (fun ps => ⟨k, p, s, a, r, X, ps⟩) (m2 - (i + 1)) (Y ++ [⟨x, y⟩])))) (M.drop p1)) := ⟨HPI.out.to (by rw [show m2 - i = (m2 - (i + 1)) + 1 from by omega]; rfl)⟩
                  have hq0 : q.2.2 = false → q.2.1 = 0 := fun h => by
                    have h2 := hq
                    unfold rdText at h2
                    split at h2
                    · split at h2
                      · rw [h2] at h; cases h
                      · rw [h2]
                    · rw [h2]
                  obtain ⟨x, at1, ok⟩ := q
                  simp only at HRT1 HTX hq0
                  have hiI : (i : Int) < (m2 : Int) := by omega
                  clear hq HPI
                  cases ok with
                  | false =>
                    have hat0 : at1 = 0 := hq0 rfl
                    subst hat0
                    have HNO0 : Aside0 (oneR l = none) := ⟨by rw [HONE.out, HPE.out.none (HTX.out.2 rfl)]; rfl⟩
                    obtain ⟨q2, hq2⟩ : ∃ q2, q2 = rdText M 0 := ⟨_, rfl⟩
                    have HRT3 := Aside0.mk (HRT2.out 0 q2 (by omega) hq2)
                    obtain ⟨y, at2, ok2⟩ := q2
                    simp only at HRT3
                    clear hq2 hq0
                    go_wp2_with fail
                    refine (HRT1.out wr (Below.refl _ _)).mono ?_
                    rintro e w5 ⟨rfl, hb5⟩
                    have HB5 := Aside0.mk hb5
                    clear hb5
                    go_wp2_with fail
                    refine (HRT3.out w5 HB5.out).mono ?_
                    rintro e w6 ⟨rfl, hb6⟩
                    have HRT6 := Aside0.mk ((HOT.out.rt.below HB5.out).below hb6)
                    clear hb6
                    go_upto_region 32 with (fail)
                    have HNO : Aside0 (oneR l = none) := ⟨HNO0.out⟩
                    have hzz := HRT6.out.z
                    have f0 : w6.cell? ⟨g2, 0, none⟩ = some (.int .i64 0) := cell_of_blk hzz
                    have z0 : w6.frozen? ⟨g2, 0, none⟩ = false := frozen_of_blk hzz
                    have f1 : w6.cell? ⟨g2, 1, none⟩ = some (.int .i64 0) := cell_of_blk hzz
                    have z1 : w6.frozen? ⟨g2, 1, none⟩ = false := frozen_of_blk hzz
                    have f2 : w6.cell? ⟨g2, 2, none⟩ = some (.int .i64 0) := cell_of_blk hzz
                    have z2 : w6.frozen? ⟨g2, 2, none⟩ = false := frozen_of_blk hzz
                    have f3 : w6.cell? ⟨g2, 3, none⟩ = some (.int .i64 0) := cell_of_blk hzz
                    have z3 : w6.frozen? ⟨g2, 3, none⟩ = false := frozen_of_blk hzz
                    have f4 : w6.cell? ⟨g2, 4, none⟩ = some (.int .i64 0) := cell_of_blk hzz
                    have z4 : w6.frozen? ⟨g2, 4, none⟩ = false := frozen_of_blk hzz
                    have f5 : w6.cell? ⟨g2, 5, none⟩ = some (.slice none 0 0) := cell_of_blk hzz
                    have z5 : w6.frozen? ⟨g2, 5, none⟩ = false := frozen_of_blk hzz
                    have f6 : w6.cell? ⟨g2, 6, none⟩ = some (.slice none 0 0) := cell_of_blk hzz
                    have z6 : w6.frozen? ⟨g2, 6, none⟩ = false := frozen_of_blk hzz
                    clear hzz
                    go_wp2_with fail
                    obtain ⟨w9, hw9⟩ : ∃ w9, w9 = (((((((w6.setCell ⟨g2, 0, none⟩ (.int .i64 0)).setCell ⟨g2, 1, none⟩ (.int .i64 0)).setCell ⟨g2, 2, none⟩ (.int .i64 0)).setCell ⟨g2, 3, none⟩ (.int .i64 0)).setCell ⟨g2, 4, none⟩ (.int .i64 0)).setCell ⟨g2, 5, none⟩ (.slice none 0 0)).setCell ⟨g2, 6, none⟩ (.slice none 0 0)) := ⟨_, rfl⟩
                    have hq9 := (setCell_blk (j := 6) (setCell_blk (j := 5) (setCell_blk (j := 4) (setCell_blk (j := 3) (setCell_blk (j := 2) (setCell_blk (j := 1) (setCell_blk (j := 0) HRT6.out.z (.int .i64 0)) (.int .i64 0)) (.int .i64 0)) (.int .i64 0)) (.int .i64 0)) (.slice none 0 0)) (.slice none 0 0))
                    have hc9 := ((((((((Ch.refl w6 (fun k => k = g2)).setCell ⟨g2, 0, none⟩ (.int .i64 0) rfl).setCell ⟨g2, 1, none⟩ (.int .i64 0) rfl).setCell ⟨g2, 2, none⟩ (.int .i64 0) rfl).setCell ⟨g2, 3, none⟩ (.int .i64 0) rfl).setCell ⟨g2, 4, none⟩ (.int .i64 0) rfl).setCell ⟨g2, 5, none⟩ (.slice none 0 0) rfl).setCell ⟨g2, 6, none⟩ (.slice none 0 0) rfl)
                    rw [← hw9] at hq9 hc9 ⊢
                    clear hw9 f0 f1 f2 f3 f4 f5 f6 z0 z1 z2 z3 z4 z5 z6
                    have y0 : w9.cell? ⟨g2, 0, none⟩ = some (.int .i64 0) := cell_of_blk hq9
                    have y1 : w9.cell? ⟨g2, 1, none⟩ = some (.int .i64 0) := cell_of_blk hq9
                    have y2 : w9.cell? ⟨g2, 2, none⟩ = some (.int .i64 0) := cell_of_blk hq9
                    have y3 : w9.cell? ⟨g2, 3, none⟩ = some (.int .i64 0) := cell_of_blk hq9
                    have y4 : w9.cell? ⟨g2, 4, none⟩ = some (.int .i64 0) := cell_of_blk hq9
                    have y5 : w9.cell? ⟨g2, 5, none⟩ = some (.slice none 0 0) := cell_of_blk hq9
                    have y6 : w9.cell? ⟨g2, 6, none⟩ = some (.slice none 0 0) := cell_of_blk hq9
                    have hbz := Below.ch HRT6.out.b hc9 HRT6.out.b.size (fun i hi => by have hi : i = g2 := hi; have := HRT6.out.o; omega)
                    have HBZ := Aside0.mk hbz
                    clear hq9 hc9 hbz
                    refine bodyPost_ret (v := .tuple #[recV zeroRec (.slice none 0 0) (.slice none 0 0), .int .i64 0, .bool false]) ?_ rfl (OneTo.no rfl HNO.out HBZ.out)
                    simp [results, Try.results51, go_sem, *]
                    rfl
                  | true =>
                    obtain ⟨hnx, hat1, hlM⟩ := HTX.out.1 rfl
                    have hat' : at1 = ((p1 + 8 + x.size : Nat) : Int) := hat1
                    obtain ⟨p2, hp2⟩ : ∃ p2, p2 = p1 + 8 + x.size := ⟨_, rfl⟩
                    rw [← hp2] at hat'
                    have hlM2 : p2 ≤ M.length := by rw [hp2]; exact hlM
                    have HPN : Aside0 (PI S j (nt (fun y => cPairs (fun ps => ⟨k, p, s, a, r, X, ps⟩) (m2 - (i + 1)) (Y ++ [⟨x, y⟩]))) (M.drop p2)) := ⟨HPE.out.to (by rw [hp2]; exact hnx)⟩
                    subst hat'
                    clear hnx hat1 hlM hq0 hp2 HTX HPE
                    obtain ⟨q2, hq2⟩ : ∃ q2, q2 = rdText M ((p2 : Nat) : Int) := ⟨_, rfl⟩
                    have HTX2 := Aside0.mk (nt_ok (F := fun y => cPairs (fun ps => ⟨k, p, s, a, r, X, ps⟩) (m2 - (i + 1)) (Y ++ [⟨x, y⟩])) q2 hq2 hlM2)
                    have HRT3 := Aside0.mk (HRT2.out ((p2 : Nat) : Int) q2 (by omega) hq2)
                    obtain ⟨y, at2, ok2⟩ := q2
                    simp only at HRT3 HTX2
                    clear hq2
                    cases ok2 with
                    | false =>
                      have HNO0 : Aside0 (oneR l = none) := ⟨by rw [HONE.out, HPN.out.none (HTX2.out.2 rfl)]; rfl⟩
                      go_wp2_with fail
                      refine (HRT1.out wr (Below.refl _ _)).mono ?_
                      rintro e w5 ⟨rfl, hb5⟩
                      have HB5 := Aside0.mk hb5
                      clear hb5
                      go_wp2_with fail
                      refine (HRT3.out w5 HB5.out).mono ?_
                      rintro e w6 ⟨rfl, hb6⟩
                      have HRT6 := Aside0.mk ((HOT.out.rt.below HB5.out).below hb6)
                      clear hb6
                      go_upto_region 32 with (fail)
                      have HNO : Aside0 (oneR l = none) := ⟨HNO0.out⟩
                      have hzz := HRT6.out.z
                      have f0 : w6.cell? ⟨g2, 0, none⟩ = some (.int .i64 0) := cell_of_blk hzz
                      have z0 : w6.frozen? ⟨g2, 0, none⟩ = false := frozen_of_blk hzz
                      have f1 : w6.cell? ⟨g2, 1, none⟩ = some (.int .i64 0) := cell_of_blk hzz
                      have z1 : w6.frozen? ⟨g2, 1, none⟩ = false := frozen_of_blk hzz
                      have f2 : w6.cell? ⟨g2, 2, none⟩ = some (.int .i64 0) := cell_of_blk hzz
                      have z2 : w6.frozen? ⟨g2, 2, none⟩ = false := frozen_of_blk hzz
                      have f3 : w6.cell? ⟨g2, 3, none⟩ = some (.int .i64 0) := cell_of_blk hzz
                      have z3 : w6.frozen? ⟨g2, 3, none⟩ = false := frozen_of_blk hzz
                      have f4 : w6.cell? ⟨g2, 4, none⟩ = some (.int .i64 0) := cell_of_blk hzz
                      have z4 : w6.frozen? ⟨g2, 4, none⟩ = false := frozen_of_blk hzz
                      have f5 : w6.cell? ⟨g2, 5, none⟩ = some (.slice none 0 0) := cell_of_blk hzz
                      have z5 : w6.frozen? ⟨g2, 5, none⟩ = false := frozen_of_blk hzz
                      have f6 : w6.cell? ⟨g2, 6, none⟩ = some (.slice none 0 0) := cell_of_blk hzz
                      have z6 : w6.frozen? ⟨g2, 6, none⟩ = false := frozen_of_blk hzz
                      clear hzz
                      go_wp2_with fail
                      obtain ⟨w9, hw9⟩ : ∃ w9, w9 = (((((((w6.setCell ⟨g2, 0, none⟩ (.int .i64 0)).setCell ⟨g2, 1, none⟩ (.int .i64 0)).setCell ⟨g2, 2, none⟩ (.int .i64 0)).setCell ⟨g2, 3, none⟩ (.int .i64 0)).setCell ⟨g2, 4, none⟩ (.int .i64 0)).setCell ⟨g2, 5, none⟩ (.slice none 0 0)).setCell ⟨g2, 6, none⟩ (.slice none 0 0)) := ⟨_, rfl⟩
                      have hq9 := (setCell_blk (j := 6) (setCell_blk (j := 5) (setCell_blk (j := 4) (setCell_blk (j := 3) (setCell_blk (j := 2) (setCell_blk (j := 1) (setCell_blk (j := 0) HRT6.out.z (.int .i64 0)) (.int .i64 0)) (.int .i64 0)) (.int .i64 0)) (.int .i64 0)) (.slice none 0 0)) (.slice none 0 0))
                      have hc9 := ((((((((Ch.refl w6 (fun k => k = g2)).setCell ⟨g2, 0, none⟩ (.int .i64 0) rfl).setCell ⟨g2, 1, none⟩ (.int .i64 0) rfl).setCell ⟨g2, 2, none⟩ (.int .i64 0) rfl).setCell ⟨g2, 3, none⟩ (.int .i64 0) rfl).setCell ⟨g2, 4, none⟩ (.int .i64 0) rfl).setCell ⟨g2, 5, none⟩ (.slice none 0 0) rfl).setCell ⟨g2, 6, none⟩ (.slice none 0 0) rfl)
                      rw [← hw9] at hq9 hc9 ⊢
                      clear hw9 f0 f1 f2 f3 f4 f5 f6 z0 z1 z2 z3 z4 z5 z6
                      have y0 : w9.cell? ⟨g2, 0, none⟩ = some (.int .i64 0) := cell_of_blk hq9
                      have y1 : w9.cell? ⟨g2, 1, none⟩ = some (.int .i64 0) := cell_of_blk hq9
                      have y2 : w9.cell? ⟨g2, 2, none⟩ = some (.int .i64 0) := cell_of_blk hq9
                      have y3 : w9.cell? ⟨g2, 3, none⟩ = some (.int .i64 0) := cell_of_blk hq9
                      have y4 : w9.cell? ⟨g2, 4, none⟩ = some (.int .i64 0) := cell_of_blk hq9
                      have y5 : w9.cell? ⟨g2, 5, none⟩ = some (.slice none 0 0) := cell_of_blk hq9
                      have y6 : w9.cell? ⟨g2, 6, none⟩ = some (.slice none 0 0) := cell_of_blk hq9
                      have hbz := Below.ch HRT6.out.b hc9 HRT6.out.b.size (fun i hi => by have hi : i = g2 := hi; have := HRT6.out.o; omega)
                      have HBZ := Aside0.mk hbz
                      clear hq9 hc9 hbz
                      refine bodyPost_ret (v := .tuple #[recV zeroRec (.slice none 0 0) (.slice none 0 0), .int .i64 0, .bool false]) ?_ rfl (OneTo.no rfl HNO.out HBZ.out)
                      simp [results, Try.results51, go_sem, *]
                      rfl
                    | true =>
                      obtain ⟨hnx, hat2, hlM⟩ := HTX2.out.1 rfl
                      have hat2' : at2 = ((p2 + 8 + y.size : Nat) : Int) := hat2
                      obtain ⟨p3, hp3⟩ : ∃ p3, p3 = p2 + 8 + y.size := ⟨_, rfl⟩
                      rw [← hp3] at hat2'
                      have hlM3 : p3 ≤ M.length := by rw [hp3]; exact hlM
                      have HPM : Aside0 (PI S j (cPairs (fun ps => ⟨k, p, s, a, r, X, ps⟩) (m2 - (i + 1)) (Y ++ [⟨x, y⟩])) (M.drop p3)) := ⟨HPN.out.to (by rw [hp3]; exact hnx)⟩
                      subst hat2'
                      clear hnx hat2 hlM hp3 HTX2 HPN
                      go_wp2_with fail
                      refine (HRT1.out wr (Below.refl _ _)).mono ?_
                      rintro e w5 ⟨rfl, hb5⟩
                      have HB5 := Aside0.mk hb5
                      clear hb5
                      go_wp2_with fail
                      refine (HRT3.out w5 HB5.out).mono ?_
                      rintro e w6 ⟨rfl, hb6⟩
                      have hb56 := two_andj _ _ _ HB5.out hb6
                      have HOT6 := Aside0.mk (HOT.out.below hb56)
                      have HO6 := Aside0.mk (HO.out.below hb56)
                      have HCH6 : Aside0 (Ch w8 w6 (fun i => i = gx)) := ⟨HCH.out.trans (Ch.of_below hb56 (fun i => i = gx)) (fun _ _ e => e)⟩
                      clear hb6 hb56
                      have HAPP : Aside0 (∀ ty, Runs Try.prog (Builtin.append_ #[32, 32] ty #[.slice A6 i n6, .slice (some ⟨w6.heap.size, 0, none⟩) 1 1]) (w6.alloc (.cells #[.string x, .string y] 114)) fun vv w7 => ∃ A7 n7, vv = .slice A7 (i + 1) n7 ∧ Aside0 (OT w (w7.setCell ⟨gx, 6, none⟩ (.slice A7 (i + 1) n7)) g2 gf gx j (xC k p s a r (.slice A5 j n5) (.slice A7 (i + 1) n7)) ∧ Own kPair 114 (w7.setCell ⟨gx, 6, none⟩ (.slice A7 (i + 1) n7)) s2 (.slice A7 (i + 1) n7) (Y ++ [⟨x, y⟩]) ∧ Ch w8 (w7.setCell ⟨gx, 6, none⟩ (.slice A7 (i + 1) n7)) (fun i => i = gx)) ∧ w7.cell? ⟨gx, 6, none⟩ = some (.slice A6 i n6) ∧ w7.frozen? ⟨gx, 6, none⟩ = false) := ⟨fun ty => by
                        have hs26 : s2 ≤ w6.heap.size := by have := HCH6.out.size; have := HX2.out; omega
                        refine (append_one_runs Try.prog flat_pair 32 ty _ 32 Try.underlying32 info_pair rfl (by decide) (x := (⟨x, y⟩ : PairD)) (cs := [.string x, .string y]) HO6.out (kPair_mk _ _) hs26 (by have := HYL.out; omega) (by have := HYL.out; omega) 114 _ rfl _ rfl).mono ?_
                        rintro vv w7 ⟨hO7, hg7⟩
                        obtain ⟨A7, n7, rfl, _, _⟩ := hO7.reads
                        have hl7 : (Y ++ [(⟨x, y⟩ : PairD)]).length = i + 1 := by rw [List.length_append, HYL.out]; rfl
                        rw [hl7] at hO7
                        rw [hl7]
                        have hc7 := ch_app hg7 HO6.out.base_
                        have hT7 := HOT6.out.ch hc7 (fun i e => by have e : s2 ≤ i := e; have := HX2.out; omega)
                        have hcs : Ch w7 (w7.setCell ⟨gx, 6, none⟩ (.slice A7 (i + 1) n7)) (fun i => i = gx) := (Ch.refl w7 (fun i => i = gx)).setCell ⟨gx, 6, none⟩ _ rfl
                        exact ⟨A7, n7, rfl, ⟨hT7.put 6 _, hO7.ch flat_pair hcs (fun i hi e => by have := hO7.base_ i hi; have e : i = gx := e; have := HX2.out; omega), (HCH6.out.trans hc7 (fun i hi e => by have e : s2 ≤ i := e; have := HX2.out; omega)).trans hcs (fun _ _ e => e)⟩, cell_of_blk hT7.x, frozen_of_blk hT7.x⟩⟩
                      have x6 : w6.cell? ⟨gx, 6, none⟩ = some (.slice A6 i n6) := cell_of_blk HOT6.out.x
                      go_wp2_with (at_builtin; refine wpList_append_runs rfl _ _ _ _ rfl _ _ rfl rfl (HAPP.out _) ?_; rintro _ w7 ⟨A7, n7, rfl, hALL, q7, z7⟩)
                      obtain ⟨w9, hw9⟩ : ∃ w9, w9 = w7.setCell ⟨gx, 6, none⟩ (.slice A7 (i + 1) n7) := ⟨_, rfl⟩
                      rw [← hw9] at hALL ⊢
                      clear hw9 q7 z7 x6
                      go_wp2_with fail
                      go_roundg (m2 - (i + 1))
                      case measure => omega
                      case rel => exact ⟨i + 1, p3, Y ++ [⟨x, y⟩], A7, n7, by omega, by go_num, rfl, hlM3, ⟨by rw [List.length_append, HYL.out]; rfl⟩, HPM, ⟨hALL.out.1⟩, ⟨hALL.out.2.1⟩, ⟨hALL.out.2.2⟩⟩
                · obtain rfl : i = m2 := by omega
                  have HPZ : Aside0 (PI S j (cEnd ⟨k, p, s, a, r, X, Y⟩) (M.drop p1)) := ⟨HPI.out.to (by rw [Nat.sub_self]; rfl)⟩
                  have hx := HOT.out.x
                  have e0 : wr.cell? ⟨gx, 0, none⟩ = some (.int .i64 k) := cell_of_blk hx
                  have e1 : wr.cell? ⟨gx, 1, none⟩ = some (.int .i64 p) := cell_of_blk hx
                  have e2 : wr.cell? ⟨gx, 2, none⟩ = some (.int .i64 s) := cell_of_blk hx
                  have e3 : wr.cell? ⟨gx, 3, none⟩ = some (.int .i64 a) := cell_of_blk hx
                  have e4 : wr.cell? ⟨gx, 4, none⟩ = some (.int .i64 r) := cell_of_blk hx
                  have e5 : wr.cell? ⟨gx, 5, none⟩ = some (.slice A5 j n5) := cell_of_blk hx
                  have e6 : wr.cell? ⟨gx, 6, none⟩ = some (.slice A6 i n6) := cell_of_blk hx
                  have HRT6 := Aside0.mk HOT.out.rt
                  have HOSET : Aside0 (Own kI 3 wr (gx + 1) (.slice A5 j n5) X) := ⟨HO8.out.ch (flat_int .i64) HCH.out (fun i hi e => by have := HO8.out.base_ i hi; have e : i = gx := e; omega)⟩
                  clear hx HPI
                  by_cases hend : p1 = 8 + m
                  case neg =>
                    have hnb : (((p1 : Nat) : Int) != 8 + (m : Int)) = true := by simp; omega
                    have hnc : (((p1 : Nat) : Int) == 8 + (m : Int)) = false := by simp; omega
                    have HNO0 : Aside0 (oneR l = none) := ⟨by
                      rw [HONE.out, HPZ.out.none]
                      · rfl
                      · unfold cEnd
                        rw [if_neg]
                        rintro ⟨h, _⟩
                        have h2 := congrArg List.length h
                        rw [List.length_drop, List.length_nil] at h2
                        omega⟩
                    clear hend
                    go_upto_region 36 with (fail)
                    clear e0 e1 e2 e3 e4 e5 e6
                    have HNO : Aside0 (oneR l = none) := ⟨HNO0.out⟩
                    have hzz := HRT6.out.z
                    have f0 : wr.cell? ⟨g2, 0, none⟩ = some (.int .i64 0) := cell_of_blk hzz
                    have z0 : wr.frozen? ⟨g2, 0, none⟩ = false := frozen_of_blk hzz
                    have f1 : wr.cell? ⟨g2, 1, none⟩ = some (.int .i64 0) := cell_of_blk hzz
                    have z1 : wr.frozen? ⟨g2, 1, none⟩ = false := frozen_of_blk hzz
                    have f2 : wr.cell? ⟨g2, 2, none⟩ = some (.int .i64 0) := cell_of_blk hzz
                    have z2 : wr.frozen? ⟨g2, 2, none⟩ = false := frozen_of_blk hzz
                    have f3 : wr.cell? ⟨g2, 3, none⟩ = some (.int .i64 0) := cell_of_blk hzz
                    have z3 : wr.frozen? ⟨g2, 3, none⟩ = false := frozen_of_blk hzz
                    have f4 : wr.cell? ⟨g2, 4, none⟩ = some (.int .i64 0) := cell_of_blk hzz
                    have z4 : wr.frozen? ⟨g2, 4, none⟩ = false := frozen_of_blk hzz
                    have f5 : wr.cell? ⟨g2, 5, none⟩ = some (.slice none 0 0) := cell_of_blk hzz
                    have z5 : wr.frozen? ⟨g2, 5, none⟩ = false := frozen_of_blk hzz
                    have f6 : wr.cell? ⟨g2, 6, none⟩ = some (.slice none 0 0) := cell_of_blk hzz
                    have z6 : wr.frozen? ⟨g2, 6, none⟩ = false := frozen_of_blk hzz
                    clear hzz
                    go_wp2_with fail
                    obtain ⟨w9, hw9⟩ : ∃ w9, w9 = (((((((wr.setCell ⟨g2, 0, none⟩ (.int .i64 0)).setCell ⟨g2, 1, none⟩ (.int .i64 0)).setCell ⟨g2, 2, none⟩ (.int .i64 0)).setCell ⟨g2, 3, none⟩ (.int .i64 0)).setCell ⟨g2, 4, none⟩ (.int .i64 0)).setCell ⟨g2, 5, none⟩ (.slice none 0 0)).setCell ⟨g2, 6, none⟩ (.slice none 0 0)) := ⟨_, rfl⟩
                    have hq9 := (setCell_blk (j := 6) (setCell_blk (j := 5) (setCell_blk (j := 4) (setCell_blk (j := 3) (setCell_blk (j := 2) (setCell_blk (j := 1) (setCell_blk (j := 0) HRT6.out.z (.int .i64 0)) (.int .i64 0)) (.int .i64 0)) (.int .i64 0)) (.int .i64 0)) (.slice none 0 0)) (.slice none 0 0))
                    have hc9 := ((((((((Ch.refl wr (fun k => k = g2)).setCell ⟨g2, 0, none⟩ (.int .i64 0) rfl).setCell ⟨g2, 1, none⟩ (.int .i64 0) rfl).setCell ⟨g2, 2, none⟩ (.int .i64 0) rfl).setCell ⟨g2, 3, none⟩ (.int .i64 0) rfl).setCell ⟨g2, 4, none⟩ (.int .i64 0) rfl).setCell ⟨g2, 5, none⟩ (.slice none 0 0) rfl).setCell ⟨g2, 6, none⟩ (.slice none 0 0) rfl)
                    rw [← hw9] at hq9 hc9 ⊢
                    clear hw9 f0 f1 f2 f3 f4 f5 f6 z0 z1 z2 z3 z4 z5 z6
                    have y0 : w9.cell? ⟨g2, 0, none⟩ = some (.int .i64 0) := cell_of_blk hq9
                    have y1 : w9.cell? ⟨g2, 1, none⟩ = some (.int .i64 0) := cell_of_blk hq9
                    have y2 : w9.cell? ⟨g2, 2, none⟩ = some (.int .i64 0) := cell_of_blk hq9
                    have y3 : w9.cell? ⟨g2, 3, none⟩ = some (.int .i64 0) := cell_of_blk hq9
                    have y4 : w9.cell? ⟨g2, 4, none⟩ = some (.int .i64 0) := cell_of_blk hq9
                    have y5 : w9.cell? ⟨g2, 5, none⟩ = some (.slice none 0 0) := cell_of_blk hq9
                    have y6 : w9.cell? ⟨g2, 6, none⟩ = some (.slice none 0 0) := cell_of_blk hq9
                    have hbz := Below.ch HRT6.out.b hc9 HRT6.out.b.size (fun i hi => by have hi : i = g2 := hi; have := HRT6.out.o; omega)
                    have HBZ := Aside0.mk hbz
                    clear hq9 hc9 hbz
                    refine bodyPost_ret (v := .tuple #[recV zeroRec (.slice none 0 0) (.slice none 0 0), .int .i64 0, .bool false]) ?_ rfl (OneTo.no rfl HNO.out HBZ.out)
                    simp [results, Try.results51, go_sem, *]
                    rfl
                  subst hend
                  have hnb : (((8 + m : Nat) : Int) != 8 + (m : Int)) = false := by simp
                  have hnc : (((8 + m : Nat) : Int) == 8 + (m : Int)) = true := by simp
                  obtain ⟨rr, hrr⟩ := bool_of (MayR ⟨k, p, s, a, r, X, Y⟩)
                  have hOS := HOSET.out.is
                  have hOP := HO.out.is
                  have HMAY : Aside0 (Calls Try.prog 37 #[.agg #[.int .i64 k, .int .i64 p, .int .i64 s, .int .i64 a, .int .i64 r, .slice A5 j n5, .slice A6 i n6]] wr fun e w' => e = .returned (.bool rr) ∧ Below wr.heap.size wr w') := ⟨by
                    have h := refMayRec ⟨k, p, s, a, r, X, Y⟩ A5 A6 n5 n6 wr ⟨hOS.2.2, hOP.2.2, by have := hOS.1; have := hOS.2.1; show X.length ≤ n5; omega, by have := hOP.1; have := hOP.2.1; show Y.length ≤ n6; omega⟩ rr hrr
                    have h1 : X.length = j := HXL.out
                    have h2 : Y.length = i := HYL.out
                    simp only [recV] at h
                    rw [h1, h2] at h
                    exact h⟩
                  have HEQ : Aside0 ((rr = false → oneR l = none) ∧ (rr = true → oneR l = some (⟨k, p, s, a, r, X, Y⟩, 8 + m))) := ⟨by
                    have hd : M.drop (8 + m) = [] := List.drop_eq_nil_of_le (by omega)
                    have hz := HPZ.out
                    rw [hd] at hz
                    refine ⟨fun h => ?_, fun h => ?_⟩
                    · have hno : ¬ MayR ⟨k, p, s, a, r, X, Y⟩ := fun hm => by rw [hrr.2 hm] at h; cases h
                      rw [HONE.out, hz.none (by unfold cEnd; rw [if_neg (fun h2 => hno h2.2)])]
                      rfl
                    · have hm := hrr.1 h
                      have h6 : X.length ≤ 6 := (mayR_small hm).1
                      rw [HONE.out, hz.le (by have := HXL.out; omega)]
                      unfold cEnd
                      rw [if_pos ⟨rfl, hm⟩]
                      rfl⟩
                  clear hrr hOS hOP
                  cases rr with
                  | false =>
                    have HNO0 := Aside0.mk (HEQ.out.1 rfl)
                    go_wp2_with fail
                    refine HMAY.out.mono ?_
                    rintro e w5 ⟨rfl, hb5⟩
                    have HRT7 := Aside0.mk (HRT6.out.below hb5)
                    clear hb5 e0 e1 e2 e3 e4 e5 e6
                    go_upto_region 36 with (fail)
                    have HNO : Aside0 (oneR l = none) := ⟨HNO0.out⟩
                    have hzz := HRT7.out.z
                    have f0 : w5.cell? ⟨g2, 0, none⟩ = some (.int .i64 0) := cell_of_blk hzz
                    have z0 : w5.frozen? ⟨g2, 0, none⟩ = false := frozen_of_blk hzz
                    have f1 : w5.cell? ⟨g2, 1, none⟩ = some (.int .i64 0) := cell_of_blk hzz
                    have z1 : w5.frozen? ⟨g2, 1, none⟩ = false := frozen_of_blk hzz
                    have f2 : w5.cell? ⟨g2, 2, none⟩ = some (.int .i64 0) := cell_of_blk hzz
                    have z2 : w5.frozen? ⟨g2, 2, none⟩ = false := frozen_of_blk hzz
                    have f3 : w5.cell? ⟨g2, 3, none⟩ = some (.int .i64 0) := cell_of_blk hzz
                    have z3 : w5.frozen? ⟨g2, 3, none⟩ = false := frozen_of_blk hzz
                    have f4 : w5.cell? ⟨g2, 4, none⟩ = some (.int .i64 0) := cell_of_blk hzz
                    have z4 : w5.frozen? ⟨g2, 4, none⟩ = false := frozen_of_blk hzz
                    have f5 : w5.cell? ⟨g2, 5, none⟩ = some (.slice none 0 0) := cell_of_blk hzz
                    have z5 : w5.frozen? ⟨g2, 5, none⟩ = false := frozen_of_blk hzz
                    have f6 : w5.cell? ⟨g2, 6, none⟩ = some (.slice none 0 0) := cell_of_blk hzz
                    have z6 : w5.frozen? ⟨g2, 6, none⟩ = false := frozen_of_blk hzz
                    clear hzz
                    go_wp2_with fail
                    obtain ⟨w9, hw9⟩ : ∃ w9, w9 = (((((((w5.setCell ⟨g2, 0, none⟩ (.int .i64 0)).setCell ⟨g2, 1, none⟩ (.int .i64 0)).setCell ⟨g2, 2, none⟩ (.int .i64 0)).setCell ⟨g2, 3, none⟩ (.int .i64 0)).setCell ⟨g2, 4, none⟩ (.int .i64 0)).setCell ⟨g2, 5, none⟩ (.slice none 0 0)).setCell ⟨g2, 6, none⟩ (.slice none 0 0)) := ⟨_, rfl⟩
                    have hq9 := (setCell_blk (j := 6) (setCell_blk (j := 5) (setCell_blk (j := 4) (setCell_blk (j := 3) (setCell_blk (j := 2) (setCell_blk (j := 1) (setCell_blk (j := 0) HRT7.out.z (.int .i64 0)) (.int .i64 0)) (.int .i64 0)) (.int .i64 0)) (.int .i64 0)) (.slice none 0 0)) (.slice none 0 0))
                    have hc9 := ((((((((Ch.refl w5 (fun k => k = g2)).setCell ⟨g2, 0, none⟩ (.int .i64 0) rfl).setCell ⟨g2, 1, none⟩ (.int .i64 0) rfl).setCell ⟨g2, 2, none⟩ (.int .i64 0) rfl).setCell ⟨g2, 3, none⟩ (.int .i64 0) rfl).setCell ⟨g2, 4, none⟩ (.int .i64 0) rfl).setCell ⟨g2, 5, none⟩ (.slice none 0 0) rfl).setCell ⟨g2, 6, none⟩ (.slice none 0 0) rfl)
                    rw [← hw9] at hq9 hc9 ⊢
                    clear hw9 f0 f1 f2 f3 f4 f5 f6 z0 z1 z2 z3 z4 z5 z6
                    have y0 : w9.cell? ⟨g2, 0, none⟩ = some (.int .i64 0) := cell_of_blk hq9
                    have y1 : w9.cell? ⟨g2, 1, none⟩ = some (.int .i64 0) := cell_of_blk hq9
                    have y2 : w9.cell? ⟨g2, 2, none⟩ = some (.int .i64 0) := cell_of_blk hq9
                    have y3 : w9.cell? ⟨g2, 3, none⟩ = some (.int .i64 0) := cell_of_blk hq9
                    have y4 : w9.cell? ⟨g2, 4, none⟩ = some (.int .i64 0) := cell_of_blk hq9
                    have y5 : w9.cell? ⟨g2, 5, none⟩ = some (.slice none 0 0) := cell_of_blk hq9
                    have y6 : w9.cell? ⟨g2, 6, none⟩ = some (.slice none 0 0) := cell_of_blk hq9
                    have hbz := Below.ch HRT7.out.b hc9 HRT7.out.b.size (fun i hi => by have hi : i = g2 := hi; have := HRT7.out.o; omega)
                    have HBZ := Aside0.mk hbz
                    clear hq9 hc9 hbz
                    refine bodyPost_ret (v := .tuple #[recV zeroRec (.slice none 0 0) (.slice none 0 0), .int .i64 0, .bool false]) ?_ rfl (OneTo.no rfl HNO.out HBZ.out)
                    simp [results, Try.results51, go_sem, *]
                    rfl
                  | true =>
                    have HYES := Aside0.mk (HEQ.out.2 rfl)
                    go_wp2_with fail
                    refine HMAY.out.mono ?_
                    rintro e w5 ⟨rfl, hb5⟩
                    have HOT5 := Aside0.mk (HOT.out.below hb5)
                    have HOS5 := Aside0.mk (HOSET.out.below hb5)
                    have HOP5 := Aside0.mk (HO.out.below hb5)
                    clear hb5 e0 e1 e2 e3 e4 e5 e6
                    have hx := HOT5.out.x
                    have hz := HOT5.out.rt.z
                    have e0 : w5.cell? ⟨gx, 0, none⟩ = some (.int .i64 k) := cell_of_blk hx
                    have e1 : w5.cell? ⟨gx, 1, none⟩ = some (.int .i64 p) := cell_of_blk hx
                    have e2 : w5.cell? ⟨gx, 2, none⟩ = some (.int .i64 s) := cell_of_blk hx
                    have e3 : w5.cell? ⟨gx, 3, none⟩ = some (.int .i64 a) := cell_of_blk hx
                    have e4 : w5.cell? ⟨gx, 4, none⟩ = some (.int .i64 r) := cell_of_blk hx
                    have e5 : w5.cell? ⟨gx, 5, none⟩ = some (.slice A5 j n5) := cell_of_blk hx
                    have e6 : w5.cell? ⟨gx, 6, none⟩ = some (.slice A6 i n6) := cell_of_blk hx
                    have f0 : w5.cell? ⟨g2, 0, none⟩ = some (.int .i64 0) := cell_of_blk hz
                    have z0 : w5.frozen? ⟨g2, 0, none⟩ = false := frozen_of_blk hz
                    have f1 : w5.cell? ⟨g2, 1, none⟩ = some (.int .i64 0) := cell_of_blk hz
                    have z1 : w5.frozen? ⟨g2, 1, none⟩ = false := frozen_of_blk hz
                    have f2 : w5.cell? ⟨g2, 2, none⟩ = some (.int .i64 0) := cell_of_blk hz
                    have z2 : w5.frozen? ⟨g2, 2, none⟩ = false := frozen_of_blk hz
                    have f3 : w5.cell? ⟨g2, 3, none⟩ = some (.int .i64 0) := cell_of_blk hz
                    have z3 : w5.frozen? ⟨g2, 3, none⟩ = false := frozen_of_blk hz
                    have f4 : w5.cell? ⟨g2, 4, none⟩ = some (.int .i64 0) := cell_of_blk hz
                    have z4 : w5.frozen? ⟨g2, 4, none⟩ = false := frozen_of_blk hz
                    have f5 : w5.cell? ⟨g2, 5, none⟩ = some (.slice none 0 0) := cell_of_blk hz
                    have z5 : w5.frozen? ⟨g2, 5, none⟩ = false := frozen_of_blk hz
                    have f6 : w5.cell? ⟨g2, 6, none⟩ = some (.slice none 0 0) := cell_of_blk hz
                    have z6 : w5.frozen? ⟨g2, 6, none⟩ = false := frozen_of_blk hz
                    clear hx hz
                    go_wp2_with fail
                    obtain ⟨w9, hw9⟩ : ∃ w9, w9 = (((((((w5.setCell ⟨g2, 0, none⟩ (.int .i64 k)).setCell ⟨g2, 1, none⟩ (.int .i64 p)).setCell ⟨g2, 2, none⟩ (.int .i64 s)).setCell ⟨g2, 3, none⟩ (.int .i64 a)).setCell ⟨g2, 4, none⟩ (.int .i64 r)).setCell ⟨g2, 5, none⟩ (.slice A5 j n5)).setCell ⟨g2, 6, none⟩ (.slice A6 i n6)) := ⟨_, rfl⟩
                    have hq9 := (setCell_blk (j := 6) (setCell_blk (j := 5) (setCell_blk (j := 4) (setCell_blk (j := 3) (setCell_blk (j := 2) (setCell_blk (j := 1) (setCell_blk (j := 0) HOT5.out.rt.z (.int .i64 k)) (.int .i64 p)) (.int .i64 s)) (.int .i64 a)) (.int .i64 r)) (.slice A5 j n5)) (.slice A6 i n6))
                    have hc9 := ((((((((Ch.refl w5 (fun k => k = g2)).setCell ⟨g2, 0, none⟩ (.int .i64 k) rfl).setCell ⟨g2, 1, none⟩ (.int .i64 p) rfl).setCell ⟨g2, 2, none⟩ (.int .i64 s) rfl).setCell ⟨g2, 3, none⟩ (.int .i64 a) rfl).setCell ⟨g2, 4, none⟩ (.int .i64 r) rfl).setCell ⟨g2, 5, none⟩ (.slice A5 j n5) rfl).setCell ⟨g2, 6, none⟩ (.slice A6 i n6) rfl)
                    rw [← hw9] at hq9 hc9 ⊢
                    clear hw9 e0 e1 e2 e3 e4 e5 e6 f0 f1 f2 f3 f4 f5 f6 z0 z1 z2 z3 z4 z5 z6
                    have y0 : w9.cell? ⟨g2, 0, none⟩ = some (.int .i64 k) := cell_of_blk hq9
                    have y1 : w9.cell? ⟨g2, 1, none⟩ = some (.int .i64 p) := cell_of_blk hq9
                    have y2 : w9.cell? ⟨g2, 2, none⟩ = some (.int .i64 s) := cell_of_blk hq9
                    have y3 : w9.cell? ⟨g2, 3, none⟩ = some (.int .i64 a) := cell_of_blk hq9
                    have y4 : w9.cell? ⟨g2, 4, none⟩ = some (.int .i64 r) := cell_of_blk hq9
                    have y5 : w9.cell? ⟨g2, 5, none⟩ = some (.slice A5 j n5) := cell_of_blk hq9
                    have y6 : w9.cell? ⟨g2, 6, none⟩ = some (.slice A6 i n6) := cell_of_blk hq9
                    have HEND : Aside0 (Own kI 3 w9 w.heap.size (.slice A5 j n5) X ∧ Own kPair 114 w9 w.heap.size (.slice A6 i n6) Y ∧ Below w.heap.size w w9) := ⟨by
                      have ho := HOT5.out.rt.o
                      have h1 := HOT5.out.o1
                      have h2 := HOT5.out.o2
                      have h3 := HX2.out
                      refine ⟨?_, ?_, ?_⟩
                      · exact (HOS5.out.ch (flat_int .i64) hc9 (fun i hi e => by have := HOS5.out.base_ i hi; have e : i = g2 := e; omega)).lower (by omega)
                      · exact (HOP5.out.ch flat_pair hc9 (fun i hi e => by have := HOP5.out.base_ i hi; have e : i = g2 := e; omega)).lower (by omega)
                      · exact Below.ch HOT5.out.rt.b hc9 HOT5.out.rt.b.size (fun i hi => by have hi : i = g2 := hi; omega)⟩
                    clear hq9 hc9
                    refine bodyPost_ret (v := .tuple #[recV ⟨k, p, s, a, r, X, Y⟩ (.slice A5 j n5) (.slice A6 i n6), .int .i64 ((8 + m : Nat) : Int), .bool true]) ?_ rfl ⟨⟨k, p, s, a, r, X, Y⟩, _, _, 8 + m, .inl ⟨rfl, HYES.out, HEND.out.1, HEND.out.2.1, HEND.out.2.2⟩⟩
                    simp [results, Try.results51, go_sem, *]
                    rfl
end Go.Proofs.Ytkgbcoijkmlmnaa.K
