/- Pairs lent, kept, written over. -/
import Derived.Test.YtckjgfbfjjiikaaKQ
set_option linter.unusedVariables false
set_option maxRecDepth 100000
set_option linter.unusedSimpArgs false
namespace Go.Proofs.Ytckjgfbfjjiikaa.K
open Go.RowKit Go.Proofs.YtckjgfbfjjiikaaW.PrintWords Go.Proofs.YtckjgfbfjjiikaaW.PrintLast Go.Proofs.YtckjgfbfjjiikaaW.PrintMore Go.Proofs.Ytckjgfbfjjiikaa.U Go.Proofs.Ytckjgfbfjjiikaa.T
attribute [local go_sem high] eqA_pair

theorem flat_pair : Flat kPair := Flat.iso (Flat.pair flat_string flat_string) _
theorem info_pair : (Try.prog.info? 80).map (fun i => (i.zero, i.size, i.bytes)) = some (some (.agg #[.string ⟨#[]⟩, .string ⟨#[]⟩]), 2, 32) := by kernel_rfl
def cellsP : List PairD → List Value
  | [] => []
  | x :: xs => .string x.key :: .string x.val :: cellsP xs
theorem cellsP_length : ∀ xs, (cellsP xs).length = xs.length * 2
  | [] => rfl
  | x :: xs => by rw [cellsP, List.length_cons, List.length_cons, cellsP_length xs, List.length_cons]; omega
theorem cellsP_append : ∀ xs ys, cellsP (xs ++ ys) = cellsP xs ++ cellsP ys
  | [], ys => rfl
  | x :: xs, ys => by rw [List.cons_append, cellsP, cellsP_append xs ys, cellsP]; rfl
theorem cellsP_at : ∀ (xs : List PairD) (i : Nat) (h : i < xs.length), (cellsP xs)[i * 2]? = some (.string xs[i].key) ∧ (cellsP xs)[i * 2 + 1]? = some (.string xs[i].val)
  | [], i, h => absurd h (by simp)
  | x :: xs, 0, h => ⟨rfl, rfl⟩
  | x :: xs, i + 1, h => by
    have := cellsP_at xs i (by simpa using h)
    rw [show (i + 1) * 2 = i * 2 + 1 + 1 from by omega, cellsP]
    simpa using this
theorem cellsP_set : ∀ (xs : List PairD) (i : Nat) (x : PairD), ((cellsP xs).set (i * 2) (.string x.key)).set (i * 2 + 1) (.string x.val) = cellsP (xs.set i x)
  | [], i, x => by simp [cellsP]
  | y :: xs, 0, x => rfl
  | y :: xs, i + 1, x => by
    have := cellsP_set xs i x
    rw [show (i + 1) * 2 = i * 2 + 1 + 1 from by omega, cellsP]
    simp only [List.set_cons_succ, cellsP, this]
theorem cellsP_of_reps {w : World} : ∀ (xs : List PairD) (cs : List Value), Reps (kPair.K w) 2 xs cs → cs = cellsP xs
  | [], cs, h => List.eq_nil_of_length_eq_zero (by simpa using h.1)
  | x :: xs, cs, h => by
    have hl := h.1
    rw [List.length_cons] at hl
    have h0 := h.2 0 x rfl
    rw [Nat.zero_mul, List.drop_zero] at h0
    have e0 := kPair_open h0
    have ih := cellsP_of_reps xs (cs.drop 2) ⟨by rw [List.length_drop]; omega, fun j p hj => by
      have := h.2 (j + 1) p (by simpa using hj)
      rw [List.drop_drop]
      rwa [show (j + 1) * 2 = 2 + j * 2 from by omega] at this⟩
    rw [← List.take_append_drop 2 cs, e0, ih]
    rfl
theorem cellsP_one (xs : List PairD) : ∀ v ∈ cellsP xs, v.oneCell' = true := by
  induction xs with
  | nil => simp [cellsP]
  | cons x xs ih =>
    intro v hv
    rw [cellsP] at hv
    rcases List.mem_cons.1 hv with rfl | hv
    · rfl
    · rcases List.mem_cons.1 hv with rfl | hv
      · rfl
      · exact ih v hv
def zeroP : PairD := ⟨⟨#[]⟩, ⟨#[]⟩⟩
def lentP : PairD := ⟨⟨#[108, 101, 110, 116]⟩, ⟨#[]⟩⟩
def overP : PairD := ⟨⟨#[111, 118, 101, 114]⟩, ⟨#[]⟩⟩
theorem zcells_pair (n : Nat) : zcells (.agg #[.string ⟨#[]⟩, .string ⟨#[]⟩]) n = cellsP (List.replicate n zeroP) := by
  induction n with
  | zero => rfl
  | succ n ih =>
    unfold zcells at ih ⊢
    rw [List.replicate_succ, List.flatten_cons, ih]
    rfl
theorem blk_pairs {w : World} {g : Nat} {xs rest : List PairD} {t : TypeId} {fr : Nat × Nat} (h : w.heap[g]? = some (.cells (cellsP (xs ++ rest)).toArray t fr)) (hl : xs.length ≤ 9223372036854775807) : Kd.C kPair w (some ⟨g, 0, none⟩) xs.length xs := by
  refine ⟨rfl, hl, fun _ => ⟨_, rfl, fun j p hj => ⟨[.string p.key, .string p.val], rfl, kPair_mk w p, fun i u hu => ?_⟩⟩⟩
  obtain ⟨hlt, rfl⟩ := List.getElem?_eq_some_iff.1 hj
  have := cellsP_at (xs ++ rest) j (by rw [List.length_append]; omega)
  rw [List.getElem_append_left hlt] at this
  rw [add_plain, cell_of_blk h]
  show (cellsP (xs ++ rest))[j * 2 + i]? = some u
  match i, hu with
  | 0, hu => rw [Nat.add_zero, this.1]; exact hu
  | 1, hu => rw [this.2]; exact hu
/-- Pairs that were lent. -/
def LentPairs (w : World) (base g : Nat) (l : List PairD) : Prop := base ≤ g ∧ w.heap[g]? = some (.cells (cellsP (l ++ List.replicate 3 lentP)).toArray 80 (0, 0))
theorem LentPairs.reads {w : World} {base g : Nat} {l : List PairD} (h : LentPairs w base g l) (hl : l.length ≤ 100000000) : Kd.C kPair w (some ⟨g, 0, none⟩) l.length l := blk_pairs h.2 (by omega)
theorem LentPairs.below {w w' : World} {base g : Nat} {l : List PairD} (h : LentPairs w base g l) (hb : Below w.heap.size w w') : LentPairs w' base g l := ⟨h.1, (hb.block g (blk_lt' h.2)).trans h.2⟩
theorem LentPairs.lt {w : World} {base g : Nat} {l : List PairD} (h : LentPairs w base g l) : g < w.heap.size := blk_lt' h.2
theorem LentPairs.other {w w' : World} {base g : Nat} {l : List PairD} {v : Value} (h : LentPairs w base g l) (hg : w.grownBy w' v.ownBlock) (hne : ∀ k, v.ownBlock = some k → g ≠ k) : LentPairs w' base g l := ⟨h.1, grown_keeps hg h.2 hne⟩

set_option maxHeartbeats 800000 in
theorem lendPairs (A0 : Option Addr) (c0 : Nat) (l0 : List PairD) (w : World) (hr0 : Kd.C kPair w A0 l0.length l0) (hl : l0.length ≤ 100000000) :
    Calls Try.prog 28 #[.slice A0 l0.length c0] w fun e w' => ∃ g, e = .returned (.slice (some ⟨g, 0, none⟩) l0.length (l0.length + 3)) ∧ LentPairs w' w.heap.size g l0 ∧ Below w.heap.size w w' := by
  have HR0 := Aside0.mk hr0
  clear hr0
  have hu := Try.underlying80
  go_enter Try.func28, Try.ntmps28
  go_wp2_with fail
  refine upon_runs (make_runs Try.prog w 45 80 _ 2 32 Try.underlying45 info_pair rfl (by omega) .i64 .i64 _ _ 0 (l0.length + 3) (by omega) (by omega) (by omega) (by omega) (by omega)) ?_
  rintro _ w1 ⟨rfl, hw1⟩
  have HB : Below w.heap.size w w1 := by rw [hw1]; exact (Below.refl _ _).alloc (Nat.le_refl _) _
  have HG : w1.heap[w.heap.size]? = some (.cells (cellsP (List.replicate (l0.length + 3) zeroP)).toArray 80 (0, 0)) := by rw [hw1, zcells_pair]; exact alloc_at w _
  have HR1 := Kd.C_below HR0.out HB
  clear hw1
  have HB1 := Aside0.mk HB
  have HG1 := Aside0.mk HG
  have HRa := Aside0.mk HR1
  clear HB HG HR1
  have key : ∃ w2, (Builtin.append_ #[45, 45] 45 #[.slice (some ⟨w.heap.size, 0, none⟩) 0 (l0.length + 3), .slice A0 l0.length c0]).run Try.prog w1 = .ok (.slice (some ⟨w.heap.size, 0, none⟩) l0.length (l0.length + 3)) w2 ∧
      w2.heap[w.heap.size]? = some (.cells (cellsP (l0 ++ List.replicate 3 zeroP)).toArray 80 (0, 0)) ∧ w1.grownBy w2 (some w.heap.size) := by
    rcases Nat.eq_zero_or_pos l0.length with h0 | h0
    · obtain rfl := List.eq_nil_of_length_eq_zero h0
      rcases A0 with _ | ad
      · obtain ⟨_, _, hr, rfl, rfl⟩ := append_none_runs Try.prog w1 45 45 80 2 32 _ Try.underlying45 info_pair (some ⟨w.heap.size, 0, none⟩) 0 3 (by omega) c0
        exact ⟨_, hr, HG1.out, World.grownBy.refl _ _⟩
      · obtain ⟨_, w2, hr, rfl, hg, hb⟩ := append_room_runs Try.prog w1 45 45 80 2 32 _ Try.underlying45 info_pair _ w.heap.size 0 3 _ rfl HG1.out ad 0 c0 [] rfl (by simp) (by simp) (by omega) (by simp)
        exact ⟨w2, hr, by simpa using hg, hb⟩
    · obtain ⟨cs, r, o, hc⟩ := C_cells HRa.out
      obtain rfl := cellsP_of_reps _ _ r
      obtain ⟨ad, rfl, hcd⟩ := hc h0
      obtain ⟨_, w2, hr, rfl, hg, hb⟩ := append_room_runs Try.prog w1 45 45 80 2 32 _ Try.underlying45 info_pair _ w.heap.size 0 (l0.length + 3) _ rfl HG1.out ad l0.length c0 (cellsP l0) (by simp [cellsP_length]) hcd (cellsP_one _) (by omega) (by simp [cellsP_length]; omega)
      refine ⟨w2, by simpa using hr, ?_, hb⟩
      rw [hg, ← List.replicate_append_replicate, cellsP_append, Nat.zero_mul, List.take_zero, List.nil_append, Nat.zero_add, List.drop_left' (by rw [cellsP_length, cellsP_length, List.length_replicate]), cellsP_append]
  obtain ⟨w2, hap, hg2, hgr2⟩ := key
  have HAP := Aside0.mk hap
  have HB2 := Aside0.mk (below_self HB1.out hgr2 HB1.out.size (Nat.le_refl _))
  have HG2 := Aside0.mk hg2
  clear hap hg2 hgr2 HG1 HRa HB1
  go_wp2_with (at_builtin; refine wpList_append_runs (R := fun v w' => v = .slice (some ⟨w.heap.size, 0, none⟩) l0.length (l0.length + 3) ∧ w' = w2) rfl _ _ _ _ rfl _ _ rfl rfl ⟨_, _, HAP.out, rfl, rfl⟩ ?_; rintro _ w3 ⟨rfl, hw3⟩; have HW3 := Aside0.mk hw3; clear hw3 HAP)
  obtain rfl := HW3.out
  rw [show l0.length + 3 - l0.length = 3 from by omega]
  go_loopg [5] 3 (fun kq v5 w' => ∃ k : Nat, k + kq = 3 ∧ v5 = .int .i64 k ∧
    Aside0 (w'.heap[w.heap.size]? = some (.cells (cellsP (l0 ++ List.replicate k lentP ++ List.replicate (3 - k) zeroP)).toArray 80 (0, 0))) ∧ Aside0 (Below w.heap.size w w'))
  case atStart => exact ⟨0, rfl, rfl, ⟨by rw [HG2.out]; simp⟩, HB2⟩
  case round =>
    obtain ⟨k, hk, rfl, HG, HB⟩ := hrel
    by_cases hlt : k < 3
    · have hat := cellsP_at (l0 ++ List.replicate k lentP ++ List.replicate (3 - k) zeroP) (l0.length + k) (by simp; omega)
      have hx0 := (cell_of_blk (j := (l0.length + k) * 2) HG.out).trans hat.1
      have hx1 := (cell_of_blk (j := (l0.length + k) * 2 + 1) HG.out).trans hat.2
      have hf0 := frozen_of_blk (j := (l0.length + k) * 2) HG.out
      have hf1 := frozen_of_blk (j := (l0.length + k) * 2 + 1) HG.out
      rw [Nat.add_mul] at hx0 hx1 hf0 hf1
      clear hat
      go_wp2_with fail
      go_roundg (2 - k)
      case measure => omega
      case rel =>
        refine ⟨k + 1, by omega, by go_num, ⟨?_⟩, ⟨(HB.out.setCell (Nat.le_refl _) _).setCell (Nat.le_refl _) _⟩⟩
        rw [setCell_blk (setCell_blk HG.out _) _, ← Nat.add_mul, show (Value.string ⟨#[108, 101, 110, 116]⟩) = .string lentP.key from rfl, show (Value.string ⟨#[]⟩) = .string lentP.val from rfl, cellsP_set]
        congr 4
        rw [List.set_append_right _ _ (by simp), show 3 - k = (3 - (k + 1)) + 1 from by omega, List.replicate_succ (n := 3 - (k + 1)), List.replicate_succ' (n := k)]
        simp
    · obtain rfl : k = 3 := by omega
      go_wp2_with fail
      go_ret
      exact ⟨_, rfl, ⟨Nat.le_refl _, by rw [HG.out]; simp⟩, HB.out⟩

set_option maxHeartbeats 800000 in
theorem keptPairs (g : Nat) (A1 : Option Addr) (c1 : Nat) (l0 l1 : List PairD) (w : World) (base : Nat) (hL : LentPairs w base g l0) (hr1 : Kd.C kPair w A1 l1.length l1) (hl : l0.length ≤ 100000000) (r : Bool) (hr : r = true ↔ l0 = l1) :
    Calls Try.prog 31 #[.slice (some ⟨g, 0, none⟩) l0.length (l0.length + 3), .slice A1 l1.length c1] w fun e w' => e = .returned (.bool r) ∧ Below w.heap.size w w' := by
  have HL := Aside0.mk hL
  have HR1 := Aside0.mk hr1
  have HR := Aside0.mk hr
  clear hL hr1 hr
  have hu := Try.underlying80
  go_enter Try.func31, Try.ntmps31
  go_wp2_with fail
  try rw [show l0.length + 3 - l0.length = 3 from by omega]
  go_loopg [6] 3 (fun kq v6 w' => ∃ k : Nat, k + kq = 3 ∧ v6 = .int .i64 k ∧ Drawn0 w w')
  case atStart => exact ⟨0, rfl, rfl, Drawn0.refl _⟩
  case round =>
    obtain ⟨k, hk, rfl, ⟨m1, rfl⟩⟩ := hrel
    by_cases hlt : k < 3
    · have hat := cellsP_at (l0 ++ List.replicate 3 lentP) (l0.length + k) (by simp; omega)
      have hx0 := (cell_of_blk (j := (l0.length + k) * 2) HL.out.2).trans hat.1
      have hx1 := (cell_of_blk (j := (l0.length + k) * 2 + 1) HL.out.2).trans hat.2
      have e : (l0 ++ List.replicate 3 lentP)[l0.length + k]'(by simp; omega) = lentP := by
        rw [List.getElem_append_right (by omega), List.getElem_replicate]
      rw [Nat.add_mul, e] at hx0 hx1
      have heq : eqP ⟨#[108, 101, 110, 116]⟩ ⟨#[]⟩ ⟨#[108, 101, 110, 116]⟩ ⟨#[]⟩ = true := (eqP_iff lentP lentP).2 rfl
      have hx0' : w.cell? ⟨g, l0.length * 2 + k * 2, none⟩ = some (.string ⟨#[108, 101, 110, 116]⟩) := hx0
      have hx1' : w.cell? ⟨g, l0.length * 2 + k * 2 + 1, none⟩ = some (.string ⟨#[]⟩) := hx1
      clear hat hx0 hx1 e
      go_wp2_with fail
      go_roundg (2 - k)
      case measure => omega
      case rel => exact ⟨k + 1, by omega, by go_num, by repeat (first | exact Drawn0.refl _ | apply Drawn0.step)⟩
    · go_wp2_with fail
      refine (samePairs _ _ l0 _ _ l1 _ (Kd.C_drewN (HL.out.reads hl) m1) (Kd.C_drewN HR1.out m1) r HR.out).mono ?_
      rintro e w5 ⟨rfl, hb⟩
      have HB := Aside0.mk hb
      clear hb
      go_wp2_with fail
      go_ret
      exact ⟨rfl, (Drawn0.step (Drawn0.refl w) m1).below.trans HB.out⟩

theorem setCells2 (w : World) (g i : Nat) (a b : Value) : w.setCells g i [a, b] = (w.setCell ⟨g, i, none⟩ a).setCell ⟨g, i + 1, none⟩ b := rfl

set_option maxHeartbeats 800000 in
theorem overPairs (v : Value) (l0 : List PairD) (base : Nat) (w : World) (hO : Own kPair 80 w base v l0) (hb : base ≤ w.heap.size) (hl : l0.length ≤ 100000000) :
    Calls Try.prog 32 #[v] w fun e w' => e = .returned (.tuple #[]) ∧ w.grownBy w' v.ownBlock := by
  have hu := Try.underlying80
  obtain ⟨A, c, rfl, hc, hrd⟩ := hO.reads
  have HO := Aside0.mk hO
  clear hrd
  rcases Nat.eq_zero_or_pos l0.length with h0 | h0
  · obtain rfl := List.eq_nil_of_length_eq_zero h0
    have hb' : base ≤ w.heap.size := hb
    clear hO hl h0
    go_enter Try.func32, Try.ntmps32
    go_wp2_with fail
    go_loopg [2] 1 (fun kq v2 w' => v2 = .int .i64 0 ∧ w' = w)
    case atStart => exact ⟨rfl, rfl⟩
    case round =>
      obtain ⟨rfl, rfl⟩ := hrel
      go_wp2_with (at_builtin; refine wpList_append_runs rfl _ _ _ _ rfl _ _ rfl rfl (append_one_runs Try.prog flat_pair 45 _ _ 32 Try.underlying45 info_pair rfl (by decide) (x := overP) (cs := [.string overP.key, .string overP.val]) HO.out (kPair_mk _ _) hb' (by simp) (by simp) 80 _ rfl _ rfl) ?_; rintro v4 w4 ⟨hv4, hg4⟩; have HG4 := Aside0.mk hg4; clear hv4 hg4)
      go_end0
      exact ⟨rfl, (World.grownBy_alloc _ _ _).trans HG4.out⟩
  · obtain ⟨g, cap, he, hbg, hlt, _⟩ := Kd.R_form hO h0
    simp only [Value.slice.injEq] at he
    obtain ⟨rfl, _, rfl⟩ := he
    have hb' : base ≤ w.heap.size := hb
    clear hO
    go_enter Try.func32, Try.ntmps32
    go_wp2_with fail
    go_loopg [2] l0.length (fun kq v2 w' => ∃ (k : Nat) (ls : List PairD), k + kq = l0.length ∧ v2 = .int .i64 k ∧ Aside0 (ls.length = l0.length) ∧ Aside0 (Own kPair 80 w' base (.slice (some ⟨g, 0, none⟩) l0.length c) ls) ∧ Aside0 (w.grownBy w' (some g)))
    case atStart => exact ⟨0, l0, by omega, rfl, ⟨rfl⟩, HO, ⟨World.grownBy.refl _ _⟩⟩
    case round =>
      obtain ⟨k, ls, hk, rfl, HLS, HO1, HG⟩ := hrel
      by_cases hlt : k < l0.length
      · obtain ⟨ce, hcl, hM, hcc, hfr⟩ := Kd.R_elem HO1.out zeroP (k : Int) (by omega) (by omega)
        have hce := kPair_open (kPair.K_of_M hM)
        obtain ⟨hput, hgp⟩ := Kd.R_seg HO1.out (k : Int) (by omega) (by omega) (seg := [.string overP.key, .string overP.val]) (j := 0) hcl hcc (by decide) (x' := overP) (okp := fun _ => False) (by rw [hce]; exact kPair_mkM _ _ _ _) (fun _ h => h.elim)
        rw [hce] at hcc
        have hx0 := hcc 0 _ rfl
        have hx1 := hcc 1 _ rfl
        have hf0 := hfr 0
        have hf1 := hfr 1
        rw [Int.toNat_natCast] at hx0 hx1 hf0 hf1 hput hgp
        have HP := Aside0.mk hput
        have HGP := Aside0.mk hgp
        clear hput hgp hcc hfr hcl hM hce
        have hx0' : wr.cell? ⟨g, k * 2, none⟩ = _ := hx0
        have hx1' : wr.cell? ⟨g, k * 2 + 1, none⟩ = _ := hx1
        have hf0' : wr.frozen? ⟨g, k * 2, none⟩ = _ := hf0
        have hf1' : wr.frozen? ⟨g, k * 2 + 1, none⟩ = _ := hf1
        clear hx0 hx1 hf0 hf1
        go_wp2_with fail
        go_roundg (l0.length - (k + 1))
        case measure => omega
        case rel => exact ⟨k + 1, ls.set k overP, by omega, by go_num, ⟨by rw [List.length_set]; exact HLS.out⟩, ⟨HP.out⟩, ⟨HG.out.trans HGP.out⟩⟩
      · have hsz : base ≤ wr.heap.size := Nat.le_trans hb' HG.out.size
        have hl2 := HLS.out
        have HL2 := Aside0.mk hl2
        clear hl2
        go_wp2_with (at_builtin; refine wpList_append_runs rfl _ _ _ _ rfl _ _ rfl rfl (append_one_runs Try.prog flat_pair 45 _ _ 32 Try.underlying45 info_pair rfl (by decide) (x := overP) (cs := [.string overP.key, .string overP.val]) HO1.out (kPair_mk _ _) hsz (by rw [HL2.out]; omega) (by rw [HL2.out]; omega) 80 _ rfl _ rfl) ?_; rintro v4 w4 ⟨hv4, hg4⟩; have HG4 := Aside0.mk hg4; clear hv4 hg4)
        go_end0
        exact ⟨rfl, HG.out.trans ((World.grownBy_alloc _ _ _).trans HG4.out)⟩
end Go.Proofs.Ytckjgfbfjjiikaa.K
