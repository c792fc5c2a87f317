/- The statement LazyApart. -/
import Derived.Test.YtckjgfbfjjiikaaL6
import Derived.Test.YtckjgfbfjjiikaaKL
import Derived.Deep.RegionWith
import Derived.Deep.RegionHeld3
import Derived.Deep.LoopGhost
import Derived.Deep.QuietTactic
import Derived.BigQuiet
set_option linter.unusedVariables false
set_option linter.unusedSimpArgs false
set_option maxRecDepth 100000
namespace Go.Proofs.Ytckjgfbfjjiikaa.K
open Go.RowKit Go.Proofs.YtckjgfbfjjiikaaW.PrintWords Go.Proofs.YtckjgfbfjjiikaaW.PrintLast Go.Proofs.YtckjgfbfjjiikaaW.PrintMore Go.Proofs.Ytckjgfbfjjiikaa.U Go.Proofs.Ytckjgfbfjjiikaa.T

theorem at_inty {w : World} {A : Option Addr} {n : Nat} {xs : List Int} (h : Kd.C (Kd.int .i64) w A n xs) (k : Nat) (hk : k < xs.length) : ∃ ad, A = some ad ∧ w.cell? (ad.add k) = some (.int .i64 xs[k]) := by
  obtain ⟨ad, e, hc⟩ := reads_cells h (by have := Kd.C_len h; omega)
  exact ⟨ad, e, hc k _ (by simp [nums, hk])⟩
theorem add_blk (a : Addr) (j : Nat) : (a.add j).block = a.block := by
  unfold Addr.add; split <;> rfl
/-- Which were asked, as the law keeps it. -/
def askL (st : Nat → Bool) : List Value := (List.range 20).map (fun j => .bool (st j))
theorem ask_at (st : Nat → Bool) (j : Nat) (h : j < 20) : (askL st)[j]? = some (.bool (st j)) := by simp [askL, h]
theorem ask_set (st : Nat → Bool) (q : Nat) (h : q < 20) : (askL st).set q (.bool true) = askL (setSt st q) := by
  apply List.ext_getElem?
  intro i
  rw [List.getElem?_set]
  by_cases hq : q = i
  · subst hq
    rw [if_pos rfl, if_pos (by simp [askL, h]), ask_at _ _ h]
    simp [setSt]
  · rw [if_neg hq]
    by_cases hi : i < 20
    · rw [ask_at _ _ hi, ask_at _ _ hi]
      simp [setSt, Ne.symm hq]
    · rw [List.getElem?_eq_none (by simp [askL]; omega), List.getElem?_eq_none (by simp [askL]; omega)]
theorem below_cy {w w' : World} (hb : Below w.heap.size w w') {a : Addr} {v : Value} (hc : w.cell? a = some v) : w'.cell? a = some v := (hb.cell (World.block_lt_of_cell? w _ hc)).trans hc

/-- Another block of a kind that no cell's is. -/
theorem Ap.other {w w' : World} {B gts gM : Nat} {A : Option Addr} {c : Nat} {ts : List ByteArray} {gs ks : List Nat} {st : Nat → Bool} (h : Ap w B gts gM A c ts gs ks st) {g : Nat} {cs : Array Value} {fr : Nat × Nat} (hg : w.heap[g]? = some (.cells cs 71 fr)) (hc : Ch w w' (fun k => k = g)) : Ap w' B gts gM A c ts gs ks st :=
  h.ch hc (blk_ne h.ts_ hg (by decide)) (blk_ne h.m_ hg (by decide)) (fun j hj => blk_ne (h.k_ j hj) hg (by decide)) (fun j hj => by
    obtain ⟨_, _, _, _, hb⟩ := (h.c_ j hj).blk
    exact blk_ne hb hg (by decide))
theorem Own.otherA {w w' : World} {base : Nat} {v : Value} {xs : List Nat} (h : Own kPtr 63 w base v xs) {g : Nat} {cs : Array Value} {fr : Nat × Nat} (hg : w.heap[g]? = some (.cells cs 71 fr)) (hc : Ch w w' (fun k => k = g)) : Own kPtr 63 w' base v xs :=
  h.ch flat_ptr hc (fun k hk => by
    obtain ⟨_, hb⟩ := own_blk h hk
    exact blk_ne hb hg (by decide))
theorem Own.otherB {w w' : World} {base : Nat} {v : Value} {xs : List Nat} (h : Own kPtr 63 w base v xs) {B gts gM : Nat} {A : Option Addr} {c : Nat} {ts : List ByteArray} {gs ks : List Nat} {st : Nat → Bool} (ha : Ap w B gts gM A c ts gs ks st) (q : Nat) (hq : q < gs.length) (hc : Ch w w' (fun k => k = gs.getD q 0 ∨ k = gM)) : Own kPtr 63 w' base v xs :=
  h.ch flat_ptr hc (fun k hk e => by
    obtain ⟨_, hb⟩ := own_blk h hk
    rcases e with e | e
    · obtain ⟨_, _, _, _, h2⟩ := (ha.c_ q hq).blk
      exact blk_ne hb h2 (by decide) e
    · exact blk_ne hb ha.m_ (by decide) e)

set_option maxHeartbeats 6400000 in
theorem lazyApart_walk (W : World) (A0 : Option Addr) (c0 : Nat) (l0 : List ByteArray) (hr0 : Kd.C Kd.string W A0 l0.length l0) (hc0 : l0.length ≤ c0) (hg0 : ∀ s ∈ l0, s.size ≤ 9223372036854775807) (A1 : Option Addr) (c1 : Nat) (l1 : List Int) (hr1 : Kd.C (Kd.int .i64) W A1 l1.length l1) (hc1 : l1.length ≤ c1) (hg1 : ∀ x ∈ l1, (Lit.int .i64 x).wf = true) :
    Calls Try.prog 12 #[.slice A0 l0.length c0, .slice A1 l1.length c1] W fun e w' => e = .returned (.bool true) ∧ Below W.heap.size W w' := by
  have hmf : ∀ (fn : Fn) (first cap : Array Value) (w : World), (Instr.makeFunc fn first cap).run Try.prog w = .ok (.func fn first cap) w := fun _ _ _ _ => rfl
  have hm0 := Kd.C_max hr0
  have hm1 := Kd.C_max hr1
  have HR0 := Aside0.mk hr0
  have HR1 := Aside0.mk hr1
  have HG0 := Aside0.mk hg0
  clear hr0 hg0 hr1 hg1
  obtain ⟨gts, hgts⟩ : ∃ x, x = W.heap.size := ⟨_, rfl⟩
  obtain ⟨w1, hw1⟩ : ∃ w1, w1 = W.alloc (.cells #[.slice A0 l0.length c0] 68) := ⟨_, rfl⟩
  have hb1 := (Below.refl W.heap.size W).alloc (Nat.le_refl _) (.cells #[.slice A0 l0.length c0] 68)
  rw [← hw1] at hb1
  have hs1 : w1.heap[gts]? = some (.cells ([.slice A0 l0.length c0] : List Value).toArray 68 (0, 0)) := by rw [hw1, hgts]; exact alloc_at W _
  have hcs : w1.cell? ⟨gts, 0, none⟩ = some (.slice A0 l0.length c0) := cell_of_blk hs1
  have HGS : Aside0 (W.heap.size ≤ gts) := ⟨by omega⟩
  have HB1 := Aside0.mk hb1
  have HS1 := Aside0.mk hs1
  have HPS := Aside0.mk hgts
  have HW1 := Aside0.mk hw1
  clear hb1 hs1 hgts hw1
  by_cases h1 : (20 : Int) < l0.length ∨ (60 : Int) < l1.length ∨ l0.length = 0
  · have hor : (20 : Int) < l0.length ∨ (¬ (20 : Int) < l0.length ∧ (60 : Int) < l1.length) ∨ (¬ (20 : Int) < l0.length ∧ ¬ (60 : Int) < l1.length ∧ ((l0.length : Int) == 0) = true) := by
      rcases h1 with h | h | h
      · exact .inl h
      · by_cases h2 : (20 : Int) < l0.length
        · exact .inl h2
        · exact .inr (.inl ⟨h2, h⟩)
      · by_cases h2 : (60 : Int) < l1.length
        · exact .inr (.inl ⟨by omega, h2⟩)
        · exact .inr (.inr ⟨by omega, h2, by simp [h]⟩)
    clear h1
    rcases hor with q1 | ⟨q1, q2⟩ | ⟨q1, q2, q3⟩
    all_goals
      go_enter Try.func12, Try.ntmps12
      go_upto_region 1 with (fail)
      rw [← HPS.out, ← HW1.out]
      go_wp2_with fail
      refine (awake3 _).mono ?_
      rintro e w6 ⟨rfl, hb6⟩
      have HB6 := Aside0.mk (two_andl _ _ _ HB1.out hb6)
      clear hb6
      go_wp2_with fail
      go_ret
      exact ⟨rfl, HB6.out⟩
  · have hl20 : l0.length ≤ 20 := by omega
    have hl60 : l1.length ≤ 60 := by omega
    have hl1 : 0 < l0.length := by omega
    clear h1
    have hz : ((l0.length : Int) == 0) = false := beq_eq_false_iff_ne.2 (by omega)
    have hq20 : ¬ (20 : Int) < l0.length := by omega
    have hq60 : ¬ (60 : Int) < l1.length := by omega
    obtain ⟨gM, hgM⟩ : ∃ x, x = w1.heap.size := ⟨_, rfl⟩
    obtain ⟨w2, hw2⟩ : ∃ w2, w2 = w1.alloc (.cells #[.int .i64 0, .int .i64 0, .int .i64 0, .int .i64 0, .int .i64 0, .int .i64 0, .int .i64 0, .int .i64 0, .int .i64 0, .int .i64 0, .int .i64 0, .int .i64 0, .int .i64 0, .int .i64 0, .int .i64 0, .int .i64 0, .int .i64 0, .int .i64 0, .int .i64 0, .int .i64 0] 70) := ⟨_, rfl⟩
    have hb2 := (Below.refl w1.heap.size w1).alloc (Nat.le_refl _) (.cells #[.int .i64 0, .int .i64 0, .int .i64 0, .int .i64 0, .int .i64 0, .int .i64 0, .int .i64 0, .int .i64 0, .int .i64 0, .int .i64 0, .int .i64 0, .int .i64 0, .int .i64 0, .int .i64 0, .int .i64 0, .int .i64 0, .int .i64 0, .int .i64 0, .int .i64 0, .int .i64 0] 70)
    rw [← hw2] at hb2
    have HA2 : Aside0 (Ap w2 W.heap.size gts gM A0 c0 l0 [] [] (fun _ => false)) := ⟨{ bts := HGS.out, bM := by rw [hgM]; exact HB1.out.size, bg := by simp, ts_ := (hb2.block gts (blk_lt' HS1.out)).trans HS1.out, m_ := by rw [hw2, hgM]; exact alloc_at w1 _, len := rfl, k_ := by simp, c_ := by simp }⟩
    have HB2 := Aside0.mk (two_andl _ _ _ HB1.out hb2)
    have HPM := Aside0.mk hgM
    have HW2 := Aside0.mk hw2
    clear hb2 hgM hw2
    go_enter Try.func12, Try.ntmps12
    go_upto_region 1 with (fail)
    rw [← HPS.out, ← HW1.out]
    go_upto_region 5 with (fail)
    rw [← HPM.out, ← HW2.out]
    clear hcs
    go_wp2_with fail
    go_loopg [5, 7] l0.length (fun kq v5 v7 w' => ∃ (k : Nat) (gs ks : List Nat), k + kq = l0.length ∧ v7 = .int .i64 k ∧ Aside0 (gs.length = k) ∧ Aside0 (Own kPtr 63 w' W.heap.size v5 gs) ∧ Aside0 (Ap w' W.heap.size gts gM A0 c0 l0 gs ks (fun _ => false)) ∧ Aside0 (Below W.heap.size W w'))
    case atStart => exact ⟨0, [], [], by omega, rfl, ⟨rfl⟩, ⟨Own.nil _ _ _ _⟩, HA2, HB2⟩
    case round =>
      clear HA2 HB2 HPM HW2 HB1 HS1 HW1
      obtain ⟨k, gs, ks, hk, rfl, HL, HO, HA, HB⟩ := hrel
      have hct : wr.cell? ⟨gts, 0, none⟩ = some (.slice A0 l0.length c0) := cell_of_blk HA.out.ts_
      obtain ⟨Av, cv, hv5, hcv, _⟩ := HO.out.reads
      subst hv5
      by_cases hlt : k < l0.length
      · obtain ⟨ad, rfl, hx0⟩ := at_string (Kd.C_below HR0.out HB.out) k hlt
        obtain ⟨s, hs⟩ : ∃ s, s = l0[k] := ⟨_, rfl⟩
        have hsz : s.size ≤ 9223372036854775807 := by rw [hs]; exact HG0.out _ (List.getElem_mem _)
        rw [← hs] at hx0
        clear hs
        have hk0 : (0 : Int) ≤ k := by omega
        have hk1 : (k : Int) < l0.length := by omega
        by_cases hbig : (100 : Int) < s.size
        · go_wp2_with fail
          refine (awake3 _).mono ?_
          rintro e w6 ⟨rfl, hb6⟩
          have HB6 := Aside0.mk (two_andl _ _ _ HB.out hb6)
          clear hb6
          go_wp2_with fail
          go_ret
          exact ⟨rfl, HB6.out⟩
        · obtain ⟨gy, hgy⟩ : ∃ x, x = wr.heap.size := ⟨_, rfl⟩
          obtain ⟨wk, hwk⟩ : ∃ wk, wk = wr.alloc (.cells #[.int .i64 k] 3) := ⟨_, rfl⟩
          have hbk := (Below.refl wr.heap.size wr).alloc (Nat.le_refl _) (.cells #[.int .i64 k] 3)
          rw [← hwk] at hbk
          have hyk : wk.heap[gy]? = some (.cells ([.int .i64 k] : List Value).toArray 3 (0, 0)) := by rw [hwk, hgy]; exact alloc_at wr _
          have HAk := Aside0.mk (HA.out.below hbk)
          have HOk := Aside0.mk (HO.out.below hbk)
          have HBk := Aside0.mk (two_andl _ _ _ HB.out hbk)
          have HYk := Aside0.mk hyk
          have HGY := Aside0.mk hgy
          have HWK := Aside0.mk hwk
          clear hbk hyk hgy hwk
          go_upto_region 11 with (fail)
          rw [← HGY.out, ← HWK.out]
          clear HWK HGY hx0 hct
          go_wp2_with fail
          refine (lzNew (.func 47) #[] #[.pointer (some ⟨gM, 0, none⟩), .pointer (some ⟨gy, 0, none⟩), .pointer (some ⟨gts, 0, none⟩)] wk).mono ?_
          rintro e w3 ⟨rfl, h3, hb3⟩
          obtain ⟨g, hg⟩ : ∃ g, g = wk.heap.size := ⟨_, rfl⟩
          rw [← hg] at h3
          rw [← hg]
          have HB3 := Aside0.mk (two_andl _ _ _ HBk.out hb3)
          have HO3 := Aside0.mk (HOk.out.below hb3)
          have HGG : Aside0 (W.heap.size ≤ g) := ⟨by rw [hg]; exact HBk.out.size⟩
          have hA3 := (HAk.out.below hb3).more g gy HGG.out (by rw [HL.out]; exact (hb3.block gy (blk_lt' HYk.out)).trans HYk.out) h3
          have HA3 := Aside0.mk hA3
          have hbs := HB3.out.size
          have hgl : gs.length ≤ 20 := by rw [HL.out]; omega
          have HGL := Aside0.mk hgl
          clear hA3 h3 hb3 hg hgl
          go_wp2_with (at_builtin; refine wpList_append_runs rfl _ _ _ _ rfl _ _ rfl rfl (append_one_runs Try.prog flat_ptr 69 _ _ 8 Try.underlying69 info_ptr rfl (by decide) (x := g) (cs := [.pointer (some ⟨g, 0, none⟩)]) HO3.out rfl hbs (by have := HGL.out; omega) (by have := HGL.out; omega) 63 _ rfl _ rfl) ?_; rintro v4 w4 ⟨hv4, hg4⟩; have HV4 := Aside0.mk hv4; have HG4 := Aside0.mk hg4; clear hv4 hg4)
          have hbl := (Below.refl w3.heap.size w3).alloc (Nat.le_refl _) (.cells #[.pointer (some ⟨g, 0, none⟩)] 63)
          have HA4 := Aside0.mk ((HA3.out.below hbl).row (HO3.out.below hbl) HG4.out)
          have HB4 := Aside0.mk ((two_andl _ _ _ HB3.out hbl).grown HG4.out (two_andl _ _ _ HB3.out hbl).size (fun k hk => HO3.out.base_ k hk))
          clear hbl
          go_roundg (l0.length - (k + 1))
          case measure => omega
          case rel => exact ⟨k + 1, gs ++ [g], ks ++ [gy], by omega, by go_num, ⟨by rw [List.length_append, HL.out]; rfl⟩, HV4, HA4, HB4⟩
      · obtain rfl : k = l0.length := by omega
        obtain ⟨w0, rfl⟩ : ∃ w0 : World, w0 = wr := ⟨_, rfl⟩
        have hk : gs.length = l0.length := HL.out
        rw [hk] at hcv
        have HGLEN := Aside0.mk hk
        clear hk
        rw [HGLEN.out] at HO ⊢
        obtain ⟨gA, hgA⟩ : ∃ x, x = w0.heap.size := ⟨_, rfl⟩
        obtain ⟨w2, hw2⟩ : ∃ w2, w2 = w0.alloc (.cells #[.bool false, .bool false, .bool false, .bool false, .bool false, .bool false, .bool false, .bool false, .bool false, .bool false, .bool false, .bool false, .bool false, .bool false, .bool false, .bool false, .bool false, .bool false, .bool false, .bool false] 71) := ⟨_, rfl⟩
        have hb2 := (Below.refl w0.heap.size w0).alloc (Nat.le_refl _) (.cells #[.bool false, .bool false, .bool false, .bool false, .bool false, .bool false, .bool false, .bool false, .bool false, .bool false, .bool false, .bool false, .bool false, .bool false, .bool false, .bool false, .bool false, .bool false, .bool false, .bool false] 71)
        rw [← hw2] at hb2
        have HAS2 : Aside0 (w2.heap[gA]? = some (.cells (askL (fun _ => false)).toArray 71 (0, 0))) := ⟨by rw [hw2, hgA]; exact alloc_at w0 _⟩
        have HA2 := Aside0.mk (HA.out.below hb2)
        have HO2 := Aside0.mk (HO.out.below hb2)
        have HB2 := Aside0.mk (two_andl _ _ _ HB.out hb2)
        have HGA : Aside0 (W.heap.size ≤ gA) := ⟨by rw [hgA]; exact HB.out.size⟩
        have HPA := Aside0.mk hgA
        have HW2 := Aside0.mk hw2
        clear hb2 hgA hw2
        go_upto_region 13 with (fail)
        rw [← HPA.out, ← HW2.out]
        clear hct
        go_wp2_with fail
        go_loopg [10] l1.length (fun kq v10 w' => ∃ (i : Nat) (st : Nat → Bool), i + kq = l1.length ∧ v10 = .int .i64 i ∧ Aside0 (Own kPtr 63 w' W.heap.size (.slice Av l0.length cv) gs) ∧ Aside0 (Ap w' W.heap.size gts gM A0 c0 l0 gs ks st) ∧ Aside0 (w'.heap[gA]? = some (.cells (askL st).toArray 71 (0, 0))) ∧ Aside0 (Below W.heap.size W w'))
        case atStart => exact ⟨0, _, by omega, rfl, HO2, HA2, HAS2, HB2⟩
        case round =>
          clear HO2 HA2 HAS2 HB2 HW2 HPA HA HO HB
          obtain ⟨i, st, hi, rfl, HO, HA, HAS, HB⟩ := hrel
          have hct : wr.cell? ⟨gts, 0, none⟩ = some (.slice A0 l0.length c0) := cell_of_blk HA.out.ts_
          by_cases hlt : i < l1.length
          · obtain ⟨ad1, rfl, hy0⟩ := at_inty HR1.out i hlt
            have hy0 := below_cy HB.out hy0
            obtain ⟨y, hy⟩ : ∃ y, y = l1[i] := ⟨_, rfl⟩
            rw [← hy] at hy0
            clear hy
            have hi0 : (0 : Int) ≤ i := by omega
            have hi1 : (i : Int) < l1.length := by omega
            obtain ⟨q, hq⟩ : ∃ q : Nat, (q : Int) = lowN y l0.length := ⟨(lowN y l0.length).toNat, by have := (lowN_range y l0.length (by omega)).1; omega⟩
            have hql : q < l0.length := by have := (lowN_range y l0.length (by omega)).2; omega
            obtain ⟨k0, hk0⟩ : ∃ k0 : Int, k0 = y % 18446744073709551616 := ⟨_, rfl⟩
            have hk00 : 0 ≤ k0 := by omega
            have hu1 : IntKind.u64.wrap y = k0 := by rw [u64_wrap, hk0]
            have hu2 : IntKind.u64.wrap (l0.length : Int) = l0.length := by rw [u64_wrap]; omega
            have hu3 : k0.tmod l0.length = q := by rw [Int.tmod_eq_emod_of_nonneg hk00, hq, hk0]; rfl
            have hu4 : IntKind.u64.wrap (q : Int) = q := by rw [u64_wrap]; omega
            have hu5 : IntKind.i64.wrap (q : Int) = q := IntWalk.i64_in _ (by omega)
            have hd1 : ((l0.length : Int) = 0) = False := by rw [eq_iff_iff]; exact ⟨fun h => by omega, fun h => h.elim⟩
            have hd2 : (l0.length = 0) = False := by rw [eq_iff_iff]; exact ⟨fun h => by omega, fun h => h.elim⟩
            have hq0 : (0 : Int) ≤ q := by omega
            have hq1 : (q : Int) < l0.length := by omega
            have hq2 : (q : Int) < 20 := by omega
            clear hk0 hq
            go_wp2_with fail
            go_quiet (fail)
            clear hu1 hu2 hu3 hu4 hu5 hd1 hd2 hk00 hct hy0
            have hbd := pw_below_drewN (Below.refl wr.heap.size wr) nq
            obtain ⟨wq, hwq⟩ : ∃ wq, wq = wr.drewN nq := ⟨_, rfl⟩
            rw [← hwq] at hbd ⊢
            have HQ := Aside0.mk hbd
            clear hbd hwq
            have hbd2 := below_drew1 HQ.out
            have HAq := Aside0.mk (HA.out.below hbd2)
            have HOq := Aside0.mk (HO.out.below hbd2)
            have HBq := Aside0.mk (two_andl _ _ _ HB.out hbd2)
            have HASq := Aside0.mk ((hbd2.block gA (blk_lt' HAS.out)).trans HAS.out)
            clear hbd2
            obtain ⟨ad, hA0, hx0⟩ := at_string HR0.out q hql
            subst hA0
            obtain ⟨s, hs⟩ : ∃ s, s = l0.getD q ⟨#[]⟩ := ⟨_, rfl⟩
            have hs2 : l0[q] = s := by rw [hs]; simp [List.getD_eq_getElem?_getD, hql]
            rw [hs2] at hx0
            have hblk : ad.block < W.heap.size := by have := World.block_lt_of_cell? W (ad.add q) hx0; rwa [add_blk] at this
            have HXW : Aside0 (∀ w', Below W.heap.size W w' → w'.cell? (ad.add q) = some (.string s)) := ⟨fun w' h => below_cy h hx0⟩
            obtain ⟨g, hg⟩ : ∃ g, g = gs.getD q 0 := ⟨_, rfl⟩
            have hgq : gs[q]'(by rw [HGLEN.out]; exact hql) = g := by rw [hg]; simp [List.getD_eq_getElem?_getD, HGLEN.out, hql]
            have hget := apGet wq.drew W.heap.size gts gM (some ad) c0 l0 gs ks st HAq.out HGLEN.out hl20 (Kd.C_below HR0.out HBq.out) (fun ad' j u e _ => by injection e with e; rw [← e, add_blk]; exact hblk) q hql
            rw [← hs, ← hg] at hget
            have HGET := Aside0.mk hget
            have HGQ := Aside0.mk hg
            obtain ⟨adv, hav, hp0⟩ := at_ptr HOq.out.is.2.2 q (by rw [HGLEN.out]; exact hql)
            subst hav
            rw [hgq] at hp0
            have hs0 := HXW.out _ HBq.out
            have ht0 : wq.drew.cell? ⟨gts, 0, none⟩ = some (.slice (some ad) l0.length c0) := cell_of_blk HAq.out.ts_
            have hblt : (adv.add q).block < wq.drew.heap.size := World.block_lt_of_cell? _ _ hp0
            clear hs hs2 hx0 hblk hget hg hgq
            have HQG : Aside0 (q < gs.length) := ⟨by rw [HGLEN.out]; exact hql⟩
            have HGST : Aside0 (gs[q]'HQG.out = g) := ⟨by rw [HGQ.out]; simp [List.getD_eq_getElem?_getD, HQG.out]⟩
            go_wp2_with fail
            go_region_held3 (fun w' => w'.cell? ⟨gts, 0, none⟩ = some (.slice (some ad) l0.length c0) ∧ w'.cell? (ad.add q) = some (.string s) ∧ w'.cell? (adv.add q) = some (.pointer (some ⟨g, 0, none⟩))) (first | exact ⟨ht0, hs0, hp0⟩ | exact HS5.out)
             (first | (go_at_call 46; refine HGET.out.mono ?_; rintro e w5 ⟨rfl, hA5, hc5⟩; have HA5 := Aside0.mk hA5; have HO5 := Aside0.mk (Own.otherB HOq.out HAq.out q HQG.out (by rw [← HGQ.out]; exact hc5)); have HB5 := Aside0.mk (Below.ch HBq.out hc5 HBq.out.size (fun k hk => by rcases hk with hk | hk; (rw [hk, HGQ.out]; exact HAq.out.bg q HQG.out); (rw [hk]; exact HAq.out.bM))); have HAS5 := Aside0.mk (hc5.blk HASq.out (fun e => by rcases e with e | e; (obtain ⟨_, _, _, _, h2⟩ := (HAq.out.c_ q HQG.out).blk; rw [HGQ.out] at e; exact blk_ne HASq.out h2 (by decide) e); (exact blk_ne HASq.out HAq.out.m_ (by decide) e))); have HS5 : Aside0 (w5.cell? ⟨gts, 0, none⟩ = some (.slice (some ad) l0.length c0) ∧ w5.cell? (ad.add q) = some (.string s) ∧ w5.cell? (adv.add q) = some (.pointer (some ⟨g, 0, none⟩))) := ⟨cell_of_blk HA5.out.ts_, HXW.out _ HB5.out, by (obtain ⟨ad', h1, h2⟩ := at_ptr HO5.out.is.2.2 q HQG.out; injection h1 with h1; rw [← h1, HGST.out] at h2; exact h2)⟩; clear hA5 hc5))
            have hca : w5.cell? ⟨gA, q, none⟩ = some (.bool (st q)) := by rw [cell_of_blk HAS5.out, ask_at _ _ (by omega)]
            have hfa : w5.frozen? ⟨gA, q, none⟩ = false := frozen_of_blk HAS5.out
            have hset := setCell_blk (j := q) HAS5.out (.bool true)
            rw [ask_set _ _ (by omega)] at hset
            have hc6 : Ch w5 (w5.setCell ⟨gA, q, none⟩ (.bool true)) (fun k => k = gA) := (Ch.refl _ _).setCell ⟨gA, q, none⟩ _ rfl
            obtain ⟨w6, hw6⟩ : ∃ w6, w6 = w5.setCell ⟨gA, q, none⟩ (.bool true) := ⟨_, rfl⟩
            rw [← hw6] at hset hc6
            have HAS6 := Aside0.mk hset
            have HA6 := Aside0.mk (HA5.out.other HAS5.out hc6)
            have HO6 := Aside0.mk (Own.otherA HO5.out HAS5.out hc6)
            have HB6 := Aside0.mk (Below.ch HB5.out hc6 HB5.out.size (fun k hk => by rw [hk]; exact HGA.out))
            have HW6 := Aside0.mk hw6
            clear hset hc6 hw6
            go_upto_region 15 with (fail)
            rw [← HW6.out]
            clear hca hfa
            go_wp2_with fail
            go_roundg (l1.length - (i + 1))
            case measure => omega
            case rel => exact ⟨i + 1, _, by omega, by go_num, HO6, HA6, HAS6, HB6⟩
          · obtain ⟨wl, rfl⟩ : ∃ wl : World, wl = wr := ⟨_, rfl⟩
            go_wp2_with fail
            go_loopg [12] l0.length (fun kq v12 w' => ∃ (k : Nat), k + kq = l0.length ∧ v12 = .int .i64 k ∧ Aside0 (Below wl.heap.size wl w'))
            case atStart => exact ⟨0, by omega, rfl, ⟨Below.refl _ _⟩⟩
            case round =>
              clear hct
              obtain ⟨q, hqk, rfl, HBL⟩ := hrel
              have hAr := HA.out.below HBL.out
              have hct : wr.cell? ⟨gts, 0, none⟩ = some (.slice A0 l0.length c0) := cell_of_blk hAr.ts_
              have HAR := Aside0.mk hAr
              clear hAr
              by_cases hql : q < l0.length
              · have hOr := HO.out.below HBL.out
                have hASr := (HBL.out.block gA (blk_lt' HAS.out)).trans HAS.out
                obtain ⟨g, hg⟩ : ∃ g, g = gs.getD q 0 := ⟨_, rfl⟩
                have hgq : gs[q]'(by rw [HGLEN.out]; exact hql) = g := by rw [hg]; simp [List.getD_eq_getElem?_getD, HGLEN.out, hql]
                obtain ⟨adv, hav, hp0⟩ := at_ptr hOr.is.2.2 q (by rw [HGLEN.out]; exact hql)
                subst hav
                rw [hgq] at hp0
                have hca : wr.cell? ⟨gA, q, none⟩ = some (.bool (st q)) := by rw [cell_of_blk hASr, ask_at _ _ (by omega)]
                have hcm : wr.cell? ⟨gM, q, none⟩ = some (.int .i64 (if st q then 1 else 0)) := by rw [cell_of_blk HAR.out.m_, mark_at _ _ (by omega)]
                have hcell := HA.out.c_ q (by rw [HGLEN.out]; exact hql)
                rw [← hg] at hcell
                have HMADE : Aside0 (∀ w', Below wl.heap.size wl w' → Calls Try.prog 45 #[.pointer (some ⟨g, 0, none⟩)] w' fun e w'' => e = .returned (.bool (st q)) ∧ w'' = w') := ⟨fun w' hb => by
                  rcases hcell.ch (Ch.of_below hb (fun _ => False)) id with ⟨e1, hc⟩ | ⟨e1, hc⟩
                  · rw [e1]; exact lzMade g 1 0 1 _ _ w' hc (.inr rfl)
                  · rw [e1]; exact lzMade g 0 0 0 _ _ w' hc (.inl rfl)⟩
                have hq0 : (0 : Int) ≤ q := by omega
                have hq1 : (q : Int) < l0.length := by omega
                have hq2 : (q : Int) < 20 := by omega
                clear hOr hASr hg hgq hcell
                cases hst : st q
                all_goals
                  rw [hst] at hca hcm
                  have HMADE2 := HMADE.out
                  rw [hst] at HMADE2
                  have HMADE3 := Aside0.mk HMADE2
                  clear HMADE HMADE2 hst
                  first | rw [if_pos rfl] at hcm | rw [if_neg (by decide)] at hcm
                  go_wp2_with fail
                  go_quiet ((go_at_call 45; exact (HMADE3.out _ (below_then HBL.out HBL.out.size (pw_below_drewN (Below.refl _ _) _))).mono (fun e w' h => ⟨h.1, _, h.2⟩)))
                  go_wp2_with fail
                  go_roundg (l0.length - (q + 1))
                  case measure => omega
                  case rel => exact ⟨q + 1, by omega, by go_num, ⟨below_then HBL.out HBL.out.size (pw_below_drewN (Below.refl _ _) _)⟩⟩
              · have HBW := Aside0.mk (below_then HB.out HB.out.size HBL.out)
                go_wp2_with fail
                refine (lzNew_nil _).mono ?_
                rintro e w3 ⟨rfl, h3, hb3⟩
                obtain ⟨g, hg⟩ : ∃ g, g = wr.heap.size := ⟨_, rfl⟩
                rw [← hg] at h3
                rw [← hg]
                have HG : Aside0 (W.heap.size ≤ g) := ⟨by rw [hg]; exact HBW.out.size⟩
                have H3 := Aside0.mk h3
                have HB3 := Aside0.mk (two_andl _ _ _ HBW.out hb3)
                clear h3 hb3 hg hct
                go_wp2_with fail
                refine (lzGet_void g 0 ⟨#[]⟩ w3 H3.out).mono ?_
                rintro e w4 ⟨rfl, h4, hc4⟩
                have H4 := Aside0.mk h4
                have HB4 := Aside0.mk (Below.ch HB3.out hc4 HB3.out.size (fun k hk => by rw [hk]; exact HG.out))
                clear h4 hc4
                go_wp2_with fail
                refine (lzMade g 1 0 1 _ _ w4 H4.out (.inr rfl)).mono ?_
                rintro e w4 ⟨rfl, rfl⟩
                go_wp2_with fail
                refine (lzGet_nil w4).mono ?_
                rintro e w5 ⟨rfl, hb5⟩
                have HB5 := Aside0.mk (two_andl _ _ _ HB4.out hb5)
                clear hb5
                go_wp2_with fail
                refine (lzMade_nil w5).mono ?_
                rintro e w5 ⟨rfl, rfl⟩
                go_wp2_with fail
                refine (awake3 w5).mono ?_
                rintro e w6 ⟨rfl, hb6⟩
                have HB6 := Aside0.mk (two_andl _ _ _ HB5.out hb6)
                clear hb6
                go_wp2_with fail
                go_ret
                exact ⟨rfl, HB6.out⟩
end Go.Proofs.Ytckjgfbfjjiikaa.K
