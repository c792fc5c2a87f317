/- The records that bytes begin with are read: the program's. WRITTEN BY wip/gen_read.py. -/
import Derived.Test.YtkgbcoijkmlmnaaR10
import Derived.Test.YtkgbcoijkmlmnaaR3
import Derived.Deep.RegionHeldLaw
set_option linter.unusedVariables false
set_option linter.unusedSimpArgs false
set_option maxRecDepth 100000
namespace Go.Proofs.Ytkgbcoijkmlmnaa.K
open Go.RowKit Go.Proofs.YtkgbcoijkmlmnaaW.PrintWords Go.Proofs.YtkgbcoijkmlmnaaW.PrintLast Go.Proofs.YtkgbcoijkmlmnaaW.PrintMore Go.Proofs.Ytkgbcoijkmlmnaa.U Go.Proofs.Ytkgbcoijkmlmnaa.T

/-! ### in plain lists -/
def oneR (l : List Int) : Option (RecD × Nat) := match pT l with | none => none | some (s, _) => (parseRec (bytesOf s)).map (fun x => (x, 8 + s.size))
def stR (l : List Int) : Nat → Option (List RecD × Nat)
  | 0 => some ([], 0)
  | k + 1 => match stR l k with | none => none | some (xs, n) => (oneR (l.drop n)).map (fun q => (xs ++ [q.1], n + q.2))
/-- X are the records that bytes begin with, n is how many bytes these have. -/
def ReadF (l : List Int) (X : List RecD) (n : Nat) : Prop := ∃ k, stR l k = some (X, n) ∧ oneR (l.drop n) = none
theorem stR_none {l : List Int} {k : Nat} (h : stR l k = none) : ∀ j, stR l (k + j) = none
  | 0 => h
  | j + 1 => by rw [← Nat.add_assoc, stR, stR_none h j]
theorem ReadF.next {l : List Int} {X : List RecD} {n k : Nat} (h : stR l k = some (X, n)) (h2 : oneR (l.drop n) = none) : stR l (k + 1) = none := by rw [stR, h]; simp [h2]
theorem ReadF.unique {l : List Int} {X Y : List RecD} {n m : Nat} (h : ReadF l X n) (k : ReadF l Y m) : X = Y ∧ n = m := by
  obtain ⟨a, h1, h2⟩ := h
  obtain ⟨b, k1, k2⟩ := k
  rcases Nat.lt_trichotomy a b with hab | hab | hab
  · have h3 := stR_none (ReadF.next h1 h2) (b - (a + 1))
    rw [show a + 1 + (b - (a + 1)) = b from by omega, k1] at h3
    cases h3
  · subst hab
    rw [h1] at k1
    injection k1 with k1
    injection k1 with e1 e2
    exact ⟨e1, e2⟩
  · have h3 := stR_none (ReadF.next k1 k2) (a - (b + 1))
    rw [show b + 1 + (a - (b + 1)) = a from by omega, h1] at h3
    cases h3
theorem rdText_pT (l : List Int) (n : Nat) (h : n ≤ l.length) (q : ByteArray × Int × Bool) (hq : q = rdText l n) :
    (q.2.2 = false → pT (l.drop n) = none) ∧ (q.2.2 = true → (∃ r, pT (l.drop n) = some (q.1, r)) ∧ q.2.1 = ((n + 8 + q.1.size : Nat) : Int) ∧ n + 8 + q.1.size ≤ l.length) := by
  subst hq
  unfold rdText pT
  rw [Int.toNat_natCast]
  by_cases h1 : (0 : Int) ≤ n ∧ (n : Int) + 8 ≤ l.length
  · have h8 : 8 ≤ (l.drop n).length := by rw [List.length_drop]; omega
    rw [if_pos h1, if_pos h8]
    by_cases h2 : 0 ≤ dec8 ((l.drop n).take 8) ∧ (n : Int) + 8 + dec8 ((l.drop n).take 8) ≤ l.length
    · have h2' : 0 ≤ dec8 ((l.drop n).take 8) ∧ dec8 ((l.drop n).take 8) + 8 ≤ ((l.drop n).length : Int) := ⟨h2.1, by rw [List.length_drop]; omega⟩
      rw [if_pos h2, if_pos h2']
      refine ⟨(fun h => by cases h), fun _ => ?_⟩
      obtain ⟨m, hm⟩ := Int.eq_ofNat_of_zero_le h2.1
      have hs : (strOfNums ((l.drop (n + 8)).take m)).size = m := by rw [size_str, List.length_take, List.length_drop]; omega
      rw [hm, Int.toNat_natCast]
      refine ⟨⟨_, by rw [List.drop_drop]⟩, ?_, ?_⟩
      · show (n : Int) + 8 + (m : Int) = _
        rw [hs]
        omega
      · rw [hs]; omega
    · have h2' : ¬ (0 ≤ dec8 ((l.drop n).take 8) ∧ dec8 ((l.drop n).take 8) + 8 ≤ ((l.drop n).length : Int)) := fun h3 => h2 ⟨h3.1, by have := h3.2; rw [List.length_drop] at this; omega⟩
      rw [if_neg h2, if_neg h2']
      exact ⟨fun _ => rfl, fun h => by cases h⟩
  · have h8 : ¬ 8 ≤ (l.drop n).length := by rw [List.length_drop]; omega
    rw [if_neg h1, if_neg h8]
    exact ⟨fun _ => rfl, fun h => by cases h⟩

/-! ### records in a row of the call's own, each with rows of its own -/
structure RecZ where
  x : RecD
  sv : Value
  pv : Value
def rawRZ (z : RecZ) : List Value := rawR z.x z.sv z.pv
def OkRZ (z : RecZ) (cs : List Value) : Prop := cs = rawRZ z ∧ z.sv.oneCell' = true ∧ z.pv.oneCell' = true
def kRR : Kd RecZ where
  sz := 7
  E := []
  K := fun _ z cs => OkRZ z cs
  M := fun _ _ _ z cs => OkRZ z cs
  K_len := by
    rintro w z cs ⟨rfl, _⟩
    rfl
  K_one := by
    rintro w z cs ⟨rfl, h1, h2⟩ u hu
    simp only [rawRZ, rawR, List.mem_cons, List.not_mem_nil, or_false] at hu
    rcases hu with rfl | rfl | rfl | rfl | rfl | rfl | rfl
    all_goals first | exact h1 | exact h2 | rfl
  K_below := fun _ h => h
  K_of_M := fun h => h
  M_mono := fun _ h => h
  M_bound := fun h => h
  M_move := fun _ h => h
  M_lower := fun _ h => h
theorem flat_RR : Flat kRR := ⟨fun h _ _ _ => h⟩
structure RListP (w : World) (base : Nat) (v : Value) (zs : List RecZ) (ow : Nat → Option Nat) : Prop where
  row : Own kRR 64 w base v zs
  sets : ∀ j (h : j < zs.length), Kd.R kI 3 w base (fun k => ow k = some j) (zs[j]).sv (zs[j]).x.set
  prs : ∀ j (h : j < zs.length), Kd.R kPair 114 w base (fun k => ow k = some j) (zs[j]).pv (zs[j]).x.prs
  out : ∀ k, v.ownBlock = some k → ow k = none
  lt : ∀ k, ow k ≠ none → k < w.heap.size
section
variable {w w' : World} {base : Nat} {v : Value} {zs : List RecZ} {ow : Nat → Option Nat}
theorem RListP.below (h : RListP w base v zs ow) (hb : Below w.heap.size w w') : RListP w' base v zs ow :=
  ⟨h.row.below hb, fun j hj => Kd.R_below (h.sets j hj) hb, fun j hj => Kd.R_below (h.prs j hj) hb, h.out, fun k hk => Nat.lt_of_lt_of_le (h.lt k hk) hb.size⟩
theorem RListP.reads (h : RListP w base v zs ow) : ∃ A c, v = .slice A zs.length c ∧ Kd.C kRec w A zs.length (zs.map (·.x)) := by
  obtain ⟨A, c, e, _, hC⟩ := h.row.reads
  refine ⟨A, c, e, ?_⟩
  obtain ⟨h1, h2, h3⟩ := hC
  refine ⟨by rw [List.length_map], h2, fun hn => ?_⟩
  obtain ⟨ad, ea, hc⟩ := h3 hn
  refine ⟨ad, ea, fun j x hj => ?_⟩
  rw [List.getElem?_map] at hj
  obtain ⟨z, hz, rfl⟩ := Option.map_eq_some_iff.1 hj
  obtain ⟨cs, hl, hK, hcell⟩ := hc j z hz
  obtain ⟨hlt, hzj⟩ := List.getElem?_eq_some_iff.1 hz
  have h4 := h.sets j hlt
  have h5 := h.prs j hlt
  rw [hzj] at h4 h5
  obtain ⟨A1, c1, e1, hle1, hC1⟩ := Kd.R_reads h4
  obtain ⟨A2, c2, e2, hle2, hC2⟩ := Kd.R_reads h5
  obtain ⟨rfl, _, _⟩ := hK
  refine ⟨rawRZ z, rfl, ?_, hcell⟩
  unfold rawRZ
  rw [e1, e2]
  exact kRec_mk ⟨hC1, hC2, hle1, hle2⟩
/-- A letter's copy stands behind the others. -/
theorem RListP.snoc {w2 wo w3 w4 : World} {v4 : Value} {x : RecD} {B1 B2 : Option Addr} {d1 d2 : Nat} (h : RListP w base v zs ow) (hb2 : Below w.heap.size w w2) (hbo : Below w2.heap.size w2 wo) (hb3 : Below wo.heap.size wo w3) (hbase : base ≤ w.heap.size)
    (hs : Own kI 3 wo w2.heap.size (.slice B1 x.set.length d1) x.set) (hp : Own kPair 114 wo w2.heap.size (.slice B2 x.prs.length d2) x.prs)
    (h4 : Own kRR 64 w4 base v4 (zs ++ [⟨x, .slice B1 x.set.length d1, .slice B2 x.prs.length d2⟩])) (hg : w3.grownBy w4 v.ownBlock) (hat : ∀ k, v4.ownBlock = some k → v.ownBlock = some k ∨ w3.heap.size ≤ k) :
    ∃ ow', RListP w4 base v4 (zs ++ [⟨x, .slice B1 x.set.length d1, .slice B2 x.prs.length d2⟩]) ow' := by
  have hb23 := below_then hb2 hb2.size (below_then hbo hbo.size hb3)
  have hvl : ∀ k, v.ownBlock = some k → k < w.heap.size := h.row.lt
  have hnew : ∀ {α : Type} (e : TypeId) (d : Kd α) (u : Value) (xs : List α), Own d e wo w2.heap.size u xs → Kd.R d e w4 base (fun k => w2.heap.size ≤ k ∧ k < wo.heap.size) u xs := fun e d u xs hO => by
    have h1 := Kd.R_mono (Kd.R_bound hO) (fun k hk => (⟨hk.2.1, hk.2.2.1⟩ : w2.heap.size ≤ k ∧ k < wo.heap.size))
    refine Kd.R_lower (Kd.R_step h1 (fun k hk hlt => ?_)) (Nat.le_trans hbase hb2.size)
    exact (hg.block k (Nat.lt_of_lt_of_le hlt hb3.size) (fun e => by have := hvl k e.symm; have := hb2.size; omega)).trans (hb3.block k hlt)
  have hold : ∀ {α : Type} (e : TypeId) (d : Kd α) (u : Value) (xs : List α) (j : Nat), Kd.R d e w base (fun k => ow k = some j) u xs → Kd.R d e w4 base (fun k => (if w2.heap.size ≤ k ∧ k < wo.heap.size then some zs.length else ow k) = some j) u xs := fun e d u xs j hO => by
    refine Kd.R_mono (Kd.R_step hO (w1 := w4) (fun k hk hlt => ?_)) (fun k hk => ?_)
    · exact (hg.block k (Nat.lt_of_lt_of_le hlt hb23.size) (fun e => by have := h.out k e.symm; rw [hk] at this; cases this)).trans (hb23.block k hlt)
    · have := h.lt k (by rw [hk]; simp)
      rw [if_neg (fun hh => by have := hb2.size; omega)]
      exact hk
  refine ⟨fun k => if w2.heap.size ≤ k ∧ k < wo.heap.size then some zs.length else ow k, h4, fun j hj => ?_, fun j hj => ?_, fun k hk => ?_, fun k hk => ?_⟩
  · rw [List.length_append, List.length_singleton] at hj
    by_cases hjl : j < zs.length
    · rw [List.getElem_append_left hjl]
      exact hold _ _ _ _ j (h.sets j hjl)
    · obtain rfl : j = zs.length := by omega
      rw [List.getElem_append_right (Nat.le_refl _)]
      simp only [Nat.sub_self, List.getElem_cons_zero]
      exact Kd.R_mono (hnew _ _ _ _ hs) (fun k hk => by rw [if_pos hk])
  · rw [List.length_append, List.length_singleton] at hj
    by_cases hjl : j < zs.length
    · rw [List.getElem_append_left hjl]
      exact hold _ _ _ _ j (h.prs j hjl)
    · obtain rfl : j = zs.length := by omega
      rw [List.getElem_append_right (Nat.le_refl _)]
      simp only [Nat.sub_self, List.getElem_cons_zero]
      exact Kd.R_mono (hnew _ _ _ _ hp) (fun k hk => by rw [if_pos hk])
  · have h3 := hb3.size
    have h2 := hb2.size
    have ho := hbo.size
    rcases hat k hk with h1 | h1
    · have := hvl k h1
      show (if _ then _ else _) = none
      rw [if_neg (fun hh => by omega)]
      exact h.out k h1
    · show (if _ then _ else _) = none
      rw [if_neg (fun hh => by omega)]
      cases hok : ow k with
      | none => rfl
      | some j => exact absurd (h.lt k (by rw [hok]; simp)) (by omega)
  · have h4s := hg.size
    have h3 := hb3.size
    have h2 := hb2.size
    have ho := hbo.size
    by_cases hh : w2.heap.size ≤ k ∧ k < wo.heap.size
    · omega
    · rw [if_neg hh] at hk
      have := h.lt k hk
      omega
end
theorem rs_C (w : World) (z : RecZ) (h1 : z.sv.oneCell' = true) (h2 : z.pv.oneCell' = true) {g : Nat} {t : TypeId} {fr : Nat × Nat} (h : w.heap[g]? = some (.cells (rawRZ z).toArray t fr)) : Kd.C kRR w (some ⟨g, 0, none⟩) 1 [z] := by
  refine ⟨rfl, by show 1 ≤ 9223372036854775807; omega, fun _ => ⟨_, rfl, fun j y hj => ?_⟩⟩
  have hj0 : j = 0 ∧ z = y := by
    cases j with
    | zero => simpa using hj
    | succ j => simp at hj
  obtain ⟨rfl, rfl⟩ := hj0
  refine ⟨_, rfl, ⟨rfl, h1, h2⟩, fun i u hu => ?_⟩
  rw [show 0 * kRR.sz + i = i from by rw [Nat.zero_mul, Nat.zero_add]]
  exact cells_of_blk h i u hu

theorem info_rec : (Try.prog.info? 64).map (fun i => (i.zero, i.size, i.bytes)) = some (some (.agg #[.int .i64 0, .int .i64 0, .int .i64 0, .int .i64 0, .int .i64 0, .slice none 0 0, .slice none 0 0]), 7, 88) := by kernel_rfl
theorem C_of_blk {w : World} {g : Nat} {cs : List Value} {xs : List Int} {k : IntKind} {t : TypeId} {fr : Nat × Nat} (h : w.heap[g]? = some (.cells cs.toArray t fr)) (hc : ∃ rest, cs = nums k xs ++ rest) (hl : xs.length ≤ 9223372036854775807) : Kd.C (Kd.int k) w (some ⟨g, 0, none⟩) xs.length xs := by
  obtain ⟨rest, rfl⟩ := hc
  refine ⟨rfl, hl, fun _ => ⟨_, rfl, fun j p hj => ⟨[.int k p], rfl, rfl, fun i u hu => ?_⟩⟩⟩
  obtain ⟨hlt, rfl⟩ := List.getElem?_eq_some_iff.1 hj
  have hi : i = 0 := by
    cases i with
    | zero => rfl
    | succ i => simp at hu
  subst hi
  have hu' : Value.int k xs[j] = u := by simpa using hu
  rw [add_plain, cell_of_blk h, ← hu']
  show (nums k xs ++ rest)[j * 1 + 0]? = _
  rw [Nat.mul_one, Nat.add_zero, List.getElem?_append_left (by rw [nums_length]; exact hlt), nums_at k xs j hlt]
theorem bytesCells_list (w : World) (e : TypeId) (s : ByteArray) : ∃ rest, (Lib.bytesCells w e s).toList = nums .u8 (bytesOf s) ++ rest := by
  refine ⟨List.replicate (grownCap w s.size 0 e - s.size) (.int .u8 0), ?_⟩
  unfold Lib.bytesCells nums bytesOf
  simp [Function.comp_def]
/-- A reader is made of a string. -/
theorem reader_made (w : World) (s : ByteArray) (hs : s.size ≤ 9223372036854775807) :
    Stood ((Lib.bytesWorld w 5 s).alloc (.cells #[.slice (some ⟨w.heap.size, 0, none⟩) s.size (grownCap w s.size 0 5), .int .i64 0, .bool false] 84)) (w.heap.size + 1) (w.heap.size + 2) (some ⟨w.heap.size, 0, none⟩) (grownCap w s.size 0 5) (bytesOf s) parseRec := by
  have hsz := Lib.bytesWorld_size w 5 s
  refine ⟨0, false, ⟨?_, ?_, by rw [bytesOf_length]; exact grownCap_ge _ _ _ _, by omega⟩, ⟨by omega, by omega, (fun h => by cases h), fun _ => rfl⟩⟩
  · have h := alloc_at (Lib.bytesWorld w 5 s) (.cells #[.slice (some ⟨w.heap.size, 0, none⟩) s.size (grownCap w s.size 0 5), .int .i64 0, .bool false] 84)
    rw [hsz] at h
    rw [bytesOf_length]
    exact h
  · intro w' hc
    have h1 := hc.blk (alloc_keeps (Lib.bytesWorld_at_new w 5 s) _) (by omega)
    obtain ⟨rest, hr⟩ := bytesCells_list w 5 s
    rw [← Array.toArray_toList (xs := Lib.bytesCells w 5 s)] at h1
    exact C_of_blk h1 ⟨rest, hr⟩ (by rw [bytesOf_length]; exact hs)

set_option maxHeartbeats 6400000 in
theorem readM (A0 : Option Addr) (c0 : Nat) (l : List Int) (w : World) (hr0 : Kd.C (Kd.int .u8) w A0 l.length l) (hc0 : l.length ≤ c0) (hl : l.length ≤ 1000000) :
    Calls Try.prog 27 #[.slice A0 l.length c0] w fun e w' => ∃ v n zs ow, e = .returned (.tuple #[v, .int .i64 ((n : Nat) : Int)]) ∧ RListP w' w.heap.size v zs ow ∧ Aside0 (ReadF l (zs.map (·.x)) n) ∧ Aside0 (n ≤ l.length) ∧ Aside0 (∀ z ∈ zs, MayR z.x) ∧ Aside0 (zs.length ≤ l.length) ∧ Below w.heap.size w w' := by
  have HR0 := Aside0.mk hr0
  have hu := Try.underlying64
  have hur := Try.underlying84
  clear hr0
  go_enter Try.func27, Try.ntmps27
  go_wp2_with fail
  go_loopg [4, 5] l.length (fun kq v4 v5 w' => ∃ (n k : Nat) (A : Option Addr) (c : Nat), n + kq = l.length ∧ v5 = .int .i64 n ∧ v4 = .slice A k c ∧ Aside0 (∃ zs ow, RListP w' w.heap.size (.slice A k c) zs ow ∧ zs.length = k ∧ (∃ j, stR l j = some (zs.map (·.x), n)) ∧ (∀ z ∈ zs, MayR z.x) ∧ k ≤ n) ∧ Aside0 (Below w.heap.size w w'))
  case atStart => exact ⟨0, 0, none, 0, by omega, rfl, rfl, ⟨[], fun _ => none, ⟨Own.nil kRR _ w _, fun j h => by simp at h, fun j h => by simp at h, fun k _ => rfl, fun k h => absurd rfl h⟩, rfl, ⟨0, rfl⟩, by simp, Nat.le_refl _⟩, ⟨Below.refl _ _⟩⟩
  case round =>
    obtain ⟨n, k, A, c, hn, rfl, rfl, HZ, HB⟩ := hrel
    have hnl : n ≤ l.length := by omega
    obtain ⟨q, hq⟩ : ∃ q, q = rdText l n := ⟨_, rfl⟩
    have HPT := Aside0.mk (rdText_pT l n hnl q hq)
    have HQ := Aside0.mk hq
    have HEND : Aside0 (oneR (l.drop n) = none → ∀ w', Below wr.heap.size wr w' → ∃ zs ow, RListP w' w.heap.size (.slice A k c) zs ow ∧ Aside0 (ReadF l (zs.map (·.x)) n) ∧ Aside0 (∀ z ∈ zs, MayR z.x) ∧ Aside0 (zs.length ≤ l.length)) := ⟨fun h w' hw => by
      obtain ⟨zs, ow, h1, h2, ⟨j, h3⟩, h4, h5⟩ := HZ.out
      exact ⟨zs, ow, h1.below hw, ⟨⟨j, h3, h⟩⟩, ⟨h4⟩, ⟨by omega⟩⟩⟩
    have HTXT : Aside0 (Calls Try.prog 49 #[.slice A0 l.length c0, .int .i64 n] wr fun e w' => e = .returned (.tuple #[.string q.1, .int .i64 q.2.1, .bool q.2.2]) ∧ Below wr.heap.size wr w') := ⟨readText_any A0 c0 l n wr (Kd.C_below HR0.out HB.out) hc0 (by omega) q HQ.out⟩
    obtain ⟨s, n', ok⟩ := q
    simp only at HTXT HPT
    clear hq
    cases ok with
    | false =>
      go_wp2_with fail
      refine HTXT.out.mono ?_
      rintro e w1 ⟨rfl, hb1⟩
      have HB1 := Aside0.mk hb1
      clear hb1
      go_wp2_with fail
      go_ret2
      obtain ⟨zs, ow, h1, h2, h3, h4⟩ := HEND.out (by unfold oneR; rw [HPT.out.1 (by first | rfl | trivial)]) _ HB1.out
      exact ⟨_, n, zs, ow, rfl, h1, h2, ⟨hnl⟩, h3, h4, two_andj _ _ _ HB.out HB1.out⟩
    | true =>
      obtain ⟨⟨rest, hpt⟩, hn', hle'⟩ := HPT.out.2 rfl
      have hn'' : n' = ((n + 8 + s.size : Nat) : Int) := hn'
      have hle : n + 8 + s.size ≤ l.length := hle'
      subst hn''
      have HONE : Aside0 (oneR (l.drop n) = (parseRec (bytesOf s)).map (fun x => (x, 8 + s.size))) := ⟨by unfold oneR; rw [hpt]⟩
      clear HPT hpt hn' hle'
      have kb := fun W => print_bytes (P := Try.prog) 9 52 5 Try.underlying9 Try.underlying52 Try.underlying5 s W
      go_wp2_with fail
      refine HTXT.out.mono ?_
      rintro e w1 ⟨rfl, hb1⟩
      obtain ⟨gc, hgc⟩ : ∃ gc, gc = grownCap w1 s.size 0 5 := ⟨_, rfl⟩
      obtain ⟨ga, hga⟩ : ∃ ga, ga = w1.heap.size := ⟨_, rfl⟩
      obtain ⟨g, hg⟩ : ∃ g, g = ga + 1 := ⟨_, rfl⟩
      obtain ⟨wB, hwB⟩ : ∃ wB, wB = (Lib.bytesWorld w1 5 s).alloc (.cells #[.slice (some ⟨ga, 0, none⟩) s.size gc, .int .i64 0, .bool false] 84) := ⟨_, rfl⟩
      have hst := reader_made w1 s (by omega)
      rw [← hgc, ← hga, ← hwB, ← hg] at hst
      have hszB : wB.heap.size = ga + 2 := by rw [hwB, World.size_alloc, Lib.bytesWorld_size, hga]
      have hb1B : Below w1.heap.size w1 wB := by rw [hwB]; exact (bytes_below (Below.refl _ _) (Nat.le_refl _) 5 s).alloc (by rw [Lib.bytesWorld_size]; omega) _
      have HREC := Aside0.mk (rRecord g (ga + 2) (some ⟨ga, 0, none⟩) gc (bytesOf s) wB hst (by rw [hszB]; exact Nat.le_refl _))
      have HB1 := Aside0.mk hb1
      have HB1B := Aside0.mk (And.intro (two_andj _ _ _ hb1 hb1B) (And.intro hga hg))
      have HSZB := Aside0.mk hszB
      have HWB := Aside0.mk (And.intro hwB (And.intro hgc (And.intro hga hg)))
      have hgq : (Lib.bytesWorld w1 5 s).heap.size = g := by rw [Lib.bytesWorld_size, hg, hga]
      clear hb1 hst hb1B hwB hgc hga hg hszB
      go_upto_region 7 with (fail)
      rw [← HWB.out.2.1, ← HWB.out.2.2.1, ← HWB.out.1]
      clear hgq kb
      go_wp2_with fail
      simp only [recV] at HREC
      refine HREC.out.mono ?_
      rintro e w2 ⟨x, sv, pv, rfl, hs, hp, hls, hlp, ⟨at', bad, hrd, hinv⟩, hc2⟩
      obtain ⟨B1, d1, rfl, hle1, hC1⟩ := hs.reads
      obtain ⟨B2, d2, rfl, hle2, hC2⟩ := hp.reads
      have HOWN := Aside0.mk (And.intro hs hp)
      obtain ⟨n1, hn1⟩ : ∃ n, n = x.set.length := ⟨_, rfl⟩
      obtain ⟨n2, hn2⟩ : ∃ n, n = x.prs.length := ⟨_, rfl⟩
      rw [← hn1, ← hn2]
      obtain ⟨gX, hgX⟩ : ∃ gX, gX = w2.heap.size := ⟨_, rfl⟩
      obtain ⟨wX, hwX⟩ : ∃ wX, wX = w2.alloc (.cells #[.int .i64 x.k, .int .i64 x.p, .int .i64 x.s, .int .i64 x.a, .int .i64 x.r, .slice B1 n1 d1, .slice B2 n2 d2] 64) := ⟨_, rfl⟩
      have hbX : Below w2.heap.size w2 wX := by rw [hwX]; exact (Below.refl _ _).alloc (Nat.le_refl _) _
      have hkX : wX.heap[gX]? = some (.cells (rawR x (.slice B1 n1 d1) (.slice B2 n2 d2)).toArray 64 (0, 0)) := by rw [hwX, hgX]; exact alloc_at w2 _
      have hbr2 : Below wr.heap.size wr w2 := Below.ch HB1B.out.1 hc2 HB1B.out.1.size (fun i hi => by have hi : i = g := hi; have := HB1.out.size; have := HB1B.out.2; omega)
      have hrX := (hrd.below hbX).blk
      rw [bytesOf_length] at hrX
      have x0 : wX.cell? ⟨g, 0, none⟩ = some (.slice (some ⟨ga, 0, none⟩) s.size gc) := cell_of_blk hrX
      have x1 : wX.cell? ⟨g, 1, none⟩ = some (.int .i64 at') := cell_of_blk hrX
      have x2 : wX.cell? ⟨g, 2, none⟩ = some (.bool bad) := cell_of_blk hrX
      have HRX := Aside0.mk hrX
      have HKX := Aside0.mk hkX
      have HRC : Aside0 (RecC wX x B1 B2 d1 d2) := ⟨⟨Kd.C_below hC1 hbX, Kd.C_below hC2 hbX, hle1, hle2⟩⟩
      have HNN := Aside0.mk (And.intro hn1 hn2)
      have HBR := Aside0.mk (And.intro hbr2 hbX)
      have HINV := Aside0.mk hinv
      have HWX := Aside0.mk (And.intro hwX hgX)
      clear hs hp hls hlp hC1 hC2 hle1 hle2 hn1 hn2 hgX hwX hbX hkX hbr2 hrX hrd hinv hc2
      go_upto_region 8 with (fail)
      rw [← HWX.out.2, ← HWX.out.1]
      have hkX := HKX.out
      have y0 : wX.cell? ⟨gX, 0, none⟩ = some (.int .i64 x.k) := cell_of_blk hkX
      have y1 : wX.cell? ⟨gX, 1, none⟩ = some (.int .i64 x.p) := cell_of_blk hkX
      have y2 : wX.cell? ⟨gX, 2, none⟩ = some (.int .i64 x.s) := cell_of_blk hkX
      have y3 : wX.cell? ⟨gX, 3, none⟩ = some (.int .i64 x.a) := cell_of_blk hkX
      have y4 : wX.cell? ⟨gX, 4, none⟩ = some (.int .i64 x.r) := cell_of_blk hkX
      have y5 : wX.cell? ⟨gX, 5, none⟩ = some (.slice B1 n1 d1) := cell_of_blk hkX
      have y6 : wX.cell? ⟨gX, 6, none⟩ = some (.slice B2 n2 d2) := cell_of_blk hkX
      clear hkX
      cases bad with
      | true =>
        have HNO : Aside0 (oneR (l.drop n) = none) := ⟨by rw [HONE.out, HINV.out.no rfl]; rfl⟩
        go_quiet (fail)
        go_wp2_with fail
        go_ret2
        have hbz : ∀ m, Below wr.heap.size wr (wX.drewN m) := fun m => two_andj _ _ _ HBR.out.1 (two_andj _ _ _ HBR.out.2 (pw_below_drewN (Below.refl _ _) m))
        obtain ⟨zs, ow, h1, h2, h3, h4⟩ := HEND.out HNO.out _ (hbz _)
        exact ⟨_, n, zs, ow, rfl, h1, h2, ⟨hnl⟩, h3, h4, two_andj _ _ _ HB.out (hbz _)⟩
      | false =>
        by_cases hat : at' = s.size
        case neg =>
          have hatb : (at' != (s.size : Int)) = true := by simpa using hat
          have hatc : (at' == (s.size : Int)) = false := by simpa using hat
          have HNO : Aside0 (oneR (l.drop n) = none) := ⟨by
            rw [HONE.out, HINV.out.go rfl]
            unfold cEnd
            rw [if_neg]
            · rfl
            · rintro ⟨h, _⟩
              have h2 := congrArg List.length h
              have h3 := HINV.out.lo
              have h4 := HINV.out.hi
              rw [bytesOf_length] at h4
              rw [List.length_drop, bytesOf_length, List.length_nil] at h2
              omega⟩
          clear hat
          go_quiet (fail)
          go_wp2_with fail
          go_ret2
          have hbz : ∀ m, Below wr.heap.size wr (wX.drewN m) := fun m => two_andj _ _ _ HBR.out.1 (two_andj _ _ _ HBR.out.2 (pw_below_drewN (Below.refl _ _) m))
          obtain ⟨zs, ow, h1, h2, h3, h4⟩ := HEND.out HNO.out _ (hbz _)
          exact ⟨_, n, zs, ow, rfl, h1, h2, ⟨hnl⟩, h3, h4, two_andj _ _ _ HB.out (hbz _)⟩
        subst hat
        have hatb : ((s.size : Int) != (s.size : Int)) = false := by simp
        obtain ⟨r, hr⟩ := bool_of (MayR x)
        have HRM := Aside0.mk hr
        have HMAY : Aside0 (∀ w', HeldB wX w' → Calls Try.prog 33 #[.agg #[.int .i64 x.k, .int .i64 x.p, .int .i64 x.s, .int .i64 x.a, .int .i64 x.r, .slice B1 n1 d1, .slice B2 n2 d2]] w' fun e w'' => e = .returned (.bool r) ∧ HeldB wX w'') := ⟨fun w' hw => by
          rw [HNN.out.1, HNN.out.2]
          exact (mayRec x B1 B2 d1 d2 w' (HRC.out.below hw) r HRM.out).mono (fun e w'' h => ⟨h.1, hw.then_ h.2⟩)⟩
        have HK0 : Aside0 (∀ w', HeldB wX w' → w'.cell? ⟨g, 0, none⟩ = some (.slice (some ⟨ga, 0, none⟩) s.size gc) ∧ w'.cell? ⟨g, 1, none⟩ = some (.int .i64 (s.size : Int)) ∧ w'.cell? ⟨g, 2, none⟩ = some (.bool false) ∧ w'.cell? ⟨gX, 0, none⟩ = some (.int .i64 x.k) ∧ w'.cell? ⟨gX, 1, none⟩ = some (.int .i64 x.p) ∧ w'.cell? ⟨gX, 2, none⟩ = some (.int .i64 x.s) ∧ w'.cell? ⟨gX, 3, none⟩ = some (.int .i64 x.a) ∧ w'.cell? ⟨gX, 4, none⟩ = some (.int .i64 x.r) ∧ w'.cell? ⟨gX, 5, none⟩ = some (.slice B1 n1 d1) ∧ w'.cell? ⟨gX, 6, none⟩ = some (.slice B2 n2 d2)) := ⟨fun w' hw => by
          have h1 := (Below.block hw _ (blk_lt' HRX.out)).trans HRX.out
          have h2 := (Below.block hw _ (blk_lt' HKX.out)).trans HKX.out
          exact ⟨cell_of_blk h1, cell_of_blk h1, cell_of_blk h1, cell_of_blk h2, cell_of_blk h2, cell_of_blk h2, cell_of_blk h2, cell_of_blk h2, cell_of_blk h2, cell_of_blk h2⟩⟩
        have HEQ : Aside0 (oneR (l.drop n) = if MayR x then some (x, 8 + s.size) else none) := ⟨by
          rw [HONE.out, HINV.out.go rfl]
          unfold cEnd
          have hd : (bytesOf s).drop ((s.size : Int)).toNat = [] := List.drop_eq_nil_of_le (by rw [bytesOf_length]; omega)
          rw [hd]
          by_cases h : MayR x
          · rw [if_pos ⟨rfl, h⟩, if_pos h]; rfl
          · rw [if_neg (fun h2 => h h2.2), if_neg h]; rfl⟩
        have hh0 : HeldB wX wX := Below.refl _ _
        have hhd : ∀ w', HeldB wX w' → HeldB wX w'.drew := fun w' h => h.then_ ⟨rfl, rfl, rfl, Nat.le_refl _, fun _ _ => rfl⟩
        clear hr
        cases r with
        | false =>
          have HNO : Aside0 (oneR (l.drop n) = none) := ⟨by rw [HEQ.out, if_neg (fun h => by cases HRM.out.2 h)]⟩
          go_region_held_law (fun w' => w'.cell? ⟨g, 0, none⟩ = some (.slice (some ⟨ga, 0, none⟩) s.size gc) ∧ w'.cell? ⟨g, 1, none⟩ = some (.int .i64 (s.size : Int)) ∧ w'.cell? ⟨g, 2, none⟩ = some (.bool false) ∧ w'.cell? ⟨gX, 0, none⟩ = some (.int .i64 x.k) ∧ w'.cell? ⟨gX, 1, none⟩ = some (.int .i64 x.p) ∧ w'.cell? ⟨gX, 2, none⟩ = some (.int .i64 x.s) ∧ w'.cell? ⟨gX, 3, none⟩ = some (.int .i64 x.a) ∧ w'.cell? ⟨gX, 4, none⟩ = some (.int .i64 x.r) ∧ w'.cell? ⟨gX, 5, none⟩ = some (.slice B1 n1 d1) ∧ w'.cell? ⟨gX, 6, none⟩ = some (.slice B2 n2 d2)) (first | assumption | exact HK0.out _ (by first | assumption | exact hhd _ hh0))
           (first
            | (go_at_call 33; ((with_reducible refine (HMAY.out _ (by first | assumption | exact hhd _ hh0)).mono ?_); rintro e w4 ⟨rfl, hH4⟩)))
          all_goals
            have hbz := two_andj _ _ _ HBR.out.1 (two_andj _ _ _ HBR.out.2 hH4)
            have HBZ := Aside0.mk hbz
            clear hH4 hh0 hhd hbz
            go_wp2_with fail
            go_ret2
            obtain ⟨zs, ow, h1, h2, h3, h4⟩ := HEND.out HNO.out _ HBZ.out
            exact ⟨_, n, zs, ow, rfl, h1, h2, ⟨hnl⟩, h3, h4, two_andj _ _ _ HB.out HBZ.out⟩
        | true =>
          have HMX := Aside0.mk (HRM.out.1 rfl)
          go_region_held_law (fun w' => w'.cell? ⟨g, 0, none⟩ = some (.slice (some ⟨ga, 0, none⟩) s.size gc) ∧ w'.cell? ⟨g, 1, none⟩ = some (.int .i64 (s.size : Int)) ∧ w'.cell? ⟨g, 2, none⟩ = some (.bool false) ∧ w'.cell? ⟨gX, 0, none⟩ = some (.int .i64 x.k) ∧ w'.cell? ⟨gX, 1, none⟩ = some (.int .i64 x.p) ∧ w'.cell? ⟨gX, 2, none⟩ = some (.int .i64 x.s) ∧ w'.cell? ⟨gX, 3, none⟩ = some (.int .i64 x.a) ∧ w'.cell? ⟨gX, 4, none⟩ = some (.int .i64 x.r) ∧ w'.cell? ⟨gX, 5, none⟩ = some (.slice B1 n1 d1) ∧ w'.cell? ⟨gX, 6, none⟩ = some (.slice B2 n2 d2)) (first | assumption | exact HK0.out _ (by first | assumption | exact hhd _ hh0))
           (first
            | (go_at_call 33; ((with_reducible refine (HMAY.out _ (by first | assumption | exact hhd _ hh0)).mono ?_); rintro e w4 ⟨rfl, hH4⟩)))
          all_goals
            obtain ⟨zs, ow, hz, hzl, hzs, hzm, hzn⟩ := HZ.out
            have hkX := (Below.block hH4 _ (blk_lt' HKX.out)).trans HKX.out
            obtain ⟨w3, hw3⟩ : ∃ w3, w3 = w4.alloc (.cells #[.int .i64 x.k, .int .i64 x.p, .int .i64 x.s, .int .i64 x.a, .int .i64 x.r, .slice B1 n1 d1, .slice B2 n2 d2] 64) := ⟨_, rfl⟩
            have hb3 : Below w4.heap.size w4 w3 := by rw [hw3]; exact (Below.refl _ _).alloc (Nat.le_refl _) _
            have hr3 : w3.heap[w4.heap.size]? = some (.cells (rawRZ ⟨x, .slice B1 x.set.length d1, .slice B2 x.prs.length d2⟩).toArray 64 (0, 0)) := by rw [hw3, HNN.out.1, HNN.out.2]; exact alloc_at w4 _
            have HR3 := Aside0.mk (rs_C w3 ⟨x, .slice B1 x.set.length d1, .slice B2 x.prs.length d2⟩ rfl rfl hr3)
            have hb23 := two_andj _ _ _ HBR.out.2 (two_andj _ _ _ hH4 hb3)
            have hbr3 := two_andj _ _ _ HBR.out.1 hb23
            have HO3 := Aside0.mk (hz.row.below hbr3)
            have HB3 := Aside0.mk (two_andj _ _ _ HB.out hbr3)
            have HB23 := Aside0.mk hb23
            have HZZ := Aside0.mk (And.intro hz (And.intro hzl (And.intro hzs (And.intro hzm hzn))))
            have HW3 := Aside0.mk hw3
            have hbs : w.heap.size ≤ w3.heap.size := HB3.out.size
            have HLO : Aside0 (wr.heap.size ≤ ga + 2) := ⟨by have := HB1.out.size; have := HB1B.out.2; omega⟩
            have u0 : w4.cell? ⟨gX, 0, none⟩ = some (.int .i64 x.k) := cell_of_blk hkX
            have u1 : w4.cell? ⟨gX, 1, none⟩ = some (.int .i64 x.p) := cell_of_blk hkX
            have u2 : w4.cell? ⟨gX, 2, none⟩ = some (.int .i64 x.s) := cell_of_blk hkX
            have u3 : w4.cell? ⟨gX, 3, none⟩ = some (.int .i64 x.a) := cell_of_blk hkX
            have u4 : w4.cell? ⟨gX, 4, none⟩ = some (.int .i64 x.r) := cell_of_blk hkX
            have u5 : w4.cell? ⟨gX, 5, none⟩ = some (.slice B1 n1 d1) := cell_of_blk hkX
            have u6 : w4.cell? ⟨gX, 6, none⟩ = some (.slice B2 n2 d2) := cell_of_blk hkX
            clear hkX hb3 hr3 hb23 hbr3 hw3 hH4 hh0 hhd hz hzl hzs hzm hzn y0 y1 y2 y3 y4 y5 y6 x0 x1 x2
            have HSN : Aside0 (∀ v4 w6, Own kRR 64 w6 w.heap.size v4 (zs ++ [⟨x, .slice B1 x.set.length d1, .slice B2 x.prs.length d2⟩]) → w3.grownBy w6 (Value.slice A k c).ownBlock → (∀ j, v4.ownBlock = some j → (Value.slice A k c).ownBlock = some j ∨ w3.heap.size ≤ j) → ∃ A4 c4, v4 = .slice A4 (k + 1) c4 ∧ Aside0 (∃ ow4, RListP w6 w.heap.size (.slice A4 (k + 1) c4) (zs ++ [⟨x, .slice B1 x.set.length d1, .slice B2 x.prs.length d2⟩]) ow4) ∧ Aside0 (Below w.heap.size w w6)) := ⟨fun v4 w6 hv4 hg4 hat4 => by
              obtain ⟨A4, c4, rfl, _, _⟩ := hv4.reads
              obtain ⟨ow4, hL4⟩ := HZZ.out.1.snoc (Below.refl _ _) HBR.out.1 HB23.out HB.out.size (HOWN.out.1.lower HLO.out) (HOWN.out.2.lower HLO.out) hv4 hg4 hat4
              have hl4 : (zs ++ [(⟨x, .slice B1 x.set.length d1, .slice B2 x.prs.length d2⟩ : RecZ)]).length = k + 1 := by rw [List.length_append, HZZ.out.2.1]; rfl
              rw [hl4] at hL4 ⊢
              exact ⟨A4, c4, rfl, ⟨ow4, hL4⟩, ⟨Below.ch HB3.out (Ch.of_grown (S := fun j => (Value.slice A k c).ownBlock = some j) hg4 (fun j hj => hj)) hbs (fun j hj => HO3.out.base_ j hj)⟩⟩⟩
            have hk88 : (zs.length + 1) * 88 ≤ 140737488355328 := by have h1 := HZZ.out.2.1; have h2 := HZZ.out.2.2.2.2; omega
            have HK88 := Aside0.mk hk88
            clear hk88
            go_wp2_with (rw [← HW3.out]; at_builtin; refine wpList_app_own flat_RR w.heap.size rfl _ _ 54 64 _ 88 rfl Try.underlying54 info_rec rfl (by decide) (by decide) (.slice A k c) zs [⟨x, .slice B1 x.set.length d1, .slice B2 x.prs.length d2⟩] (some ⟨w4.heap.size, 0, none⟩) 1 1 rfl rfl HO3.out rfl HR3.out hbs HK88.out ?_; intro v4 w6 hv4 hg4 hat4; obtain ⟨A4, c4, rfl, HL4, HB4⟩ := HSN.out v4 w6 hv4 hg4 hat4; clear hv4 hg4 hat4)
            go_roundg (l.length - (n + 8 + s.size))
            case measure => omega
            case rel =>
              refine ⟨n + 8 + s.size, k + 1, A4, c4, by omega, by go_num, rfl, ⟨_, _, HL4.out.choose_spec, by rw [List.length_append, HZZ.out.2.1]; rfl, ?_, ?_, ?_⟩, HB4⟩
              · obtain ⟨j, hj⟩ := HZZ.out.2.2.1
                exact ⟨j + 1, by rw [stR, hj, List.map_append]; simp only []; rw [HEQ.out, if_pos HMX.out]; simp [Nat.add_assoc]⟩
              · intro z hz
                rcases List.mem_append.1 hz with hz | hz
                · exact HZZ.out.2.2.2.1 z hz
                · obtain rfl := List.mem_singleton.1 hz
                  exact HMX.out
              · have := HZZ.out.2.2.2.2
                omega
end Go.Proofs.Ytkgbcoijkmlmnaa.K
