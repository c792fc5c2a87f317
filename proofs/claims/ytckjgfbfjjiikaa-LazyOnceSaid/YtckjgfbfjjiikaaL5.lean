/- The statement LazyOnce. -/
import Derived.Test.YtckjgfbfjjiikaaL4
import Derived.Test.YtckjgfbfjjiikaaKL
import Derived.Deep.RegionWith
import Derived.Deep.LoopGhost
set_option linter.unusedVariables false
set_option linter.unusedSimpArgs false
namespace Go.Proofs.Ytckjgfbfjjiikaa.K
open Go.RowKit Go.Proofs.YtckjgfbfjjiikaaW.PrintWords Go.Proofs.YtckjgfbfjjiikaaW.PrintLast Go.Proofs.YtckjgfbfjjiikaaW.PrintMore Go.Proofs.Ytckjgfbfjjiikaa.U Go.Proofs.Ytckjgfbfjjiikaa.T

theorem clo44 (gn gs : Nat) (s : ByteArray) (w : World) (hn : w.cell? ⟨gn, 0, none⟩ = some (.int .i64 0)) (hz : w.frozen? ⟨gn, 0, none⟩ = false) (hs : w.cell? ⟨gs, 0, none⟩ = some (.string s)) (hs1 : (w.setCell ⟨gn, 0, none⟩ (.int .i64 1)).cell? ⟨gs, 0, none⟩ = some (.string s)) (hn1 : (w.setCell ⟨gn, 0, none⟩ (.int .i64 1)).cell? ⟨gn, 0, none⟩ = some (.int .i64 1)) :
    Calls Try.prog 44 #[.pointer (some ⟨gn, 0, none⟩), .pointer (some ⟨gs, 0, none⟩)] w fun e w' => e = .returned (.string s) ∧ w' = w.setCell ⟨gn, 0, none⟩ (.int .i64 1) := by
  go_enter Try.func44, Try.ntmps44
  go_wp2_with fail
  go_ret
  exact ⟨rfl, rfl⟩

def NS (gn gs : Nat) (n : Int) (s : ByteArray) (w : World) : Prop := w.heap[gn]? = some (.cells ([.int .i64 n] : List Value).toArray 3 (0, 0)) ∧ w.heap[gs]? = some (.cells ([.string s] : List Value).toArray 9 (0, 0))
theorem NS.ch {gn gs : Nat} {n : Int} {s : ByteArray} {w w' : World} {S : Nat → Prop} (h : NS gn gs n s w) (hc : Ch w w' S) (h1 : ¬ S gn) (h2 : ¬ S gs) : NS gn gs n s w' := ⟨hc.blk h.1 h1, hc.blk h.2 h2⟩
theorem getOnce (g gn gs : Nat) (s : ByteArray) (w : World) (h1 : gs < gn) (h2 : gn < g) (h : CellR w g 0 0 0 (.func (.func 44) #[] #[.pointer (some ⟨gn, 0, none⟩), .pointer (some ⟨gs, 0, none⟩)]) ⟨#[]⟩) (hI : NS gn gs 0 s w) :
    Calls Try.prog 46 #[.pointer (some ⟨g, 0, none⟩)] w fun e w' => e = .returned (.string s) ∧ CellR w' g 1 0 1 (.func (.func 44) #[] #[.pointer (some ⟨gn, 0, none⟩), .pointer (some ⟨gs, 0, none⟩)]) s ∧ NS gn gs 1 s w' ∧ Ch w w' (fun k => k = g ∨ k = gn) :=
  lzGet_first g 0 44 #[.pointer (some ⟨gn, 0, none⟩), .pointer (some ⟨gs, 0, none⟩)] (fun w => ent_of Try.func44 (by kernel_rfl) rfl _ w) ⟨#[]⟩ s w h (NS gn gs 0 s) (NS gn gs 1 s) (fun k => k = gn) hI
    (fun _ _ h hc => h.ch hc (by omega) (by omega)) (fun _ _ h hc => h.ch hc (by omega) (by omega)) (by omega) (fun k hk => by rw [hk]; exact blk_lt' hI.1)
    (fun w' hI' => by
      have hc : Ch w' (w'.setCell ⟨gn, 0, none⟩ (.int .i64 1)) (fun k => k = gn) := (Ch.refl _ _).setCell ⟨gn, 0, none⟩ _ rfl
      have hs1 : (w'.setCell ⟨gn, 0, none⟩ (.int .i64 1)).heap[gs]? = some (.cells ([.string s] : List Value).toArray 9 (0, 0)) := hc.blk hI'.2 (by omega)
      have hn1 : (w'.setCell ⟨gn, 0, none⟩ (.int .i64 1)).heap[gn]? = some (.cells ([.int .i64 1] : List Value).toArray 3 (0, 0)) := setCell_blk hI'.1 _
      refine (clo44 gn gs s w' (cell_of_blk hI'.1) (frozen_of_blk hI'.1) (cell_of_blk hI'.2) (cell_of_blk hs1) (cell_of_blk hn1)).mono ?_
      rintro e w'' ⟨rfl, rfl⟩
      exact ⟨rfl, ⟨hn1, hs1⟩, hc⟩)

set_option maxRecDepth 100000 in
set_option maxHeartbeats 3200000 in
theorem lazyOnce_walk (W : World) (s : ByteArray) (ws : s.size ≤ 140737488351232) (times : Int) (wt : (Lit.int .i64 times).wf = true) :
    Calls Try.prog 11 #[.string s, .int .i64 times] W fun e w' => e = .returned (.bool true) ∧ Below W.heap.size W w' := by
  have hmf : ∀ (fn : Fn) (first cap : Array Value) (w : World), (Instr.makeFunc fn first cap).run Try.prog w = .ok (.func fn first cap) w := fun _ _ _ _ => rfl
  clear wt
  obtain ⟨gs, hgs⟩ : ∃ x, x = W.heap.size := ⟨_, rfl⟩
  obtain ⟨w1, hw1⟩ : ∃ w1, w1 = W.alloc (.cells #[.string s] 9) := ⟨_, rfl⟩
  have hb1 := (Below.refl W.heap.size W).alloc (Nat.le_refl _) (.cells #[.string s] 9)
  rw [← hw1] at hb1
  have hs1 : w1.heap[gs]? = some (.cells ([.string s] : List Value).toArray 9 (0, 0)) := by rw [hw1, hgs]; exact alloc_at W _
  have HGS : Aside0 (W.heap.size ≤ gs) := ⟨by omega⟩
  have HB1 := Aside0.mk hb1
  have HS1 := Aside0.mk hs1
  have HPS := Aside0.mk hgs
  have HW1 := Aside0.mk hw1
  have hcs : w1.cell? ⟨gs, 0, none⟩ = some (.string s) := cell_of_blk hs1
  clear hb1 hs1 hgs hw1
  by_cases h1 : (100 : Int) < s.size
  · go_enter Try.func11, Try.ntmps11
    go_upto_region 1 with (fail)
    rw [← HPS.out, ← HW1.out]
    go_wp2_with fail
    refine (awake3 _).mono ?_
    rintro e w6 ⟨rfl, hb6⟩
    have HB6 := Aside0.mk (two_andl _ _ _ HB1.out hb6)
    clear hb6
    go_wp2_with fail
    go_ret
    exact ⟨rfl, HB6.out⟩
  · obtain ⟨gn, hgn⟩ : ∃ x, x = w1.heap.size := ⟨_, rfl⟩
    obtain ⟨w2, hw2⟩ : ∃ w2, w2 = w1.alloc (.cells #[.int .i64 0] 3) := ⟨_, rfl⟩
    have hb2 := (Below.refl w1.heap.size w1).alloc (Nat.le_refl _) (.cells #[.int .i64 0] 3)
    rw [← hw2] at hb2
    have HN2 : Aside0 (NS gn gs 0 s w2) := ⟨⟨by rw [hw2, hgn]; exact alloc_at w1 _, (hb2.block gs (blk_lt' HS1.out)).trans HS1.out⟩⟩
    have HGN : Aside0 (gs < gn) := ⟨by rw [hgn]; exact blk_lt' HS1.out⟩
    have HB2 := Aside0.mk (two_andl _ _ _ HB1.out hb2)
    have HPN := Aside0.mk hgn
    have HW2 := Aside0.mk hw2
    clear hb2 hgn hw2
    go_enter Try.func11, Try.ntmps11
    go_upto_region 1 with (fail)
    rw [← HPS.out, ← HW1.out]
    go_upto_region 4 with (fail)
    rw [← HPN.out, ← HW2.out]
    clear hcs
    go_wp2_with fail
    refine (lzNew (.func 44) #[] #[.pointer (some ⟨gn, 0, none⟩), .pointer (some ⟨gs, 0, none⟩)] w2).mono ?_
    rintro e w3 ⟨rfl, h3, hb3⟩
    obtain ⟨g, hg⟩ : ∃ g, g = w2.heap.size := ⟨_, rfl⟩
    rw [← hg] at h3
    rw [← hg]
    have HGG : Aside0 (gn < g) := ⟨by rw [hg]; exact blk_lt' HN2.out.1⟩
    have hN3 : NS gn gs 0 s w3 := HN2.out.ch (Ch.of_below hb3 (fun _ => False)) id id
    have hcn : w3.cell? ⟨gn, 0, none⟩ = some (.int .i64 0) := cell_of_blk hN3.1
    have HN3 := Aside0.mk hN3
    have H3 := Aside0.mk h3
    have HB3 := Aside0.mk (two_andl _ _ _ HB2.out hb3)
    clear hb3 hg hN3 h3
    go_wp2_with fail
    refine (lzMade g 0 0 0 _ _ w3 H3.out (.inl rfl)).mono ?_
    rintro e w3 ⟨rfl, rfl⟩
    clear hcn
    obtain ⟨q, hq⟩ : ∃ q : Nat, (q : Int) = lowN times 20 := ⟨(lowN times 20).toNat, by have := (lowN_range times 20 (by omega)).1; omega⟩
    have hq20 : q < 20 := by have := (lowN_range times 20 (by omega)).2; omega
    have hu1 : IntKind.u64.wrap times = times % 18446744073709551616 := by rw [u64_wrap]
    obtain ⟨k0, hk0⟩ : ∃ k0 : Int, k0 = times % 18446744073709551616 := ⟨_, rfl⟩
    have hk00 : 0 ≤ k0 := by omega
    have hu1' : IntKind.u64.wrap times = k0 := by rw [hu1, hk0]
    have hu3 : k0.tmod 20 = q := by rw [Int.tmod_eq_emod_of_nonneg hk00, hq, hk0]; rfl
    have hu4 : IntKind.u64.wrap (q : Int) = q := by rw [u64_wrap]; omega
    have hu5 : IntKind.i64.wrap (q : Int) = q := IntWalk.i64_in _ (by omega)
    clear hu1 hk0 hq
    go_wp2_with fail
    go_loopg [7] (q + 1) (fun kq v w' => ∃ k : Nat, k + kq = q + 1 ∧ v = .int .i64 k ∧ Aside0 ((k = 0 ∧ CellR w' g 0 0 0 (.func (.func 44) #[] #[.pointer (some ⟨gn, 0, none⟩), .pointer (some ⟨gs, 0, none⟩)]) ⟨#[]⟩ ∧ NS gn gs 0 s w') ∨ (0 < k ∧ CellR w' g 1 0 1 (.func (.func 44) #[] #[.pointer (some ⟨gn, 0, none⟩), .pointer (some ⟨gs, 0, none⟩)]) s ∧ NS gn gs 1 s w')) ∧ Aside0 (Below W.heap.size W w'))
    case atStart => exact ⟨0, by omega, rfl, ⟨.inl ⟨rfl, H3.out, HN3.out⟩⟩, HB3⟩
    case round =>
      obtain ⟨k, hk, rfl, HC, HB⟩ := hrel
      by_cases hlt : (k : Int) ≤ q
      · rcases HC.out with ⟨hk0, hC, hN⟩ | ⟨hk0, hC, hN⟩
        · have HGET : Aside0 (∀ n, Calls Try.prog 46 #[.pointer (some ⟨g, 0, none⟩)] (wr.drewN n) fun e w' => e = .returned (.string s) ∧ CellR w' g 1 0 1 (.func (.func 44) #[] #[.pointer (some ⟨gn, 0, none⟩), .pointer (some ⟨gs, 0, none⟩)]) s ∧ NS gn gs 1 s w' ∧ Below W.heap.size W w') := ⟨fun n => by
            have hd := Ch.of_below (pw_below_drewN (Below.refl wr.heap.size wr) n) (fun _ => False)
            have hbd := two_andl _ _ _ HB.out (pw_below_drewN (Below.refl wr.heap.size wr) n)
            refine (getOnce g gn gs s (wr.drewN n) HGN.out HGG.out (CellR.ch hC hd id) (hN.ch hd id id)).mono ?_
            rintro e w' ⟨rfl, h1, h2, h3⟩
            exact ⟨rfl, h1, h2, Below.ch hbd h3 hbd.size (fun k hk => by have := HGS.out; have := HGN.out; have := HGG.out; omega)⟩⟩
          have hs0 : wr.cell? ⟨gs, 0, none⟩ = some (.string s) := cell_of_blk hN.2
          clear hC hN HC
          go_wp2_with fail
          go_region_with (first
            | (go_at_call 46; refine (HGET.out _).mono ?_; rintro e w5 ⟨rfl, hC5, hN5, hb5⟩; have hs5 : w5.cell? ⟨gs, 0, none⟩ = some (.string s) := cell_of_blk hN5.2; have hn5 : w5.cell? ⟨gn, 0, none⟩ = some (.int .i64 1) := cell_of_blk hN5.1; have HC5 := Aside0.mk hC5; have HN5 := Aside0.mk hN5; have HB5 := Aside0.mk hb5; clear hC5 hN5 hb5)
            | (go_at_call 45; refine (lzMade g 1 0 1 _ _ _ HC5.out (.inr rfl)).mono ?_; rintro e w5 ⟨rfl, rfl⟩))
          all_goals
            go_wp2_with fail
            go_roundg (q - k)
            case measure => omega
            case rel => exact ⟨k + 1, by omega, by go_num, ⟨.inr ⟨by omega, HC5.out, HN5.out⟩⟩, HB5⟩
        · have HGET : Aside0 (∀ n, Calls Try.prog 46 #[.pointer (some ⟨g, 0, none⟩)] (wr.drewN n) fun e w' => e = .returned (.string s) ∧ CellR w' g 1 0 1 (.func (.func 44) #[] #[.pointer (some ⟨gn, 0, none⟩), .pointer (some ⟨gs, 0, none⟩)]) s ∧ NS gn gs 1 s w' ∧ Below W.heap.size W w') := ⟨fun n => by
            have hd := Ch.of_below (pw_below_drewN (Below.refl wr.heap.size wr) n) (fun _ => False)
            have hbd := two_andl _ _ _ HB.out (pw_below_drewN (Below.refl wr.heap.size wr) n)
            refine (lzGet_again g 1 _ s (wr.drewN n) (CellR.ch hC hd id)).mono ?_
            rintro e w' ⟨rfl, h1, h3⟩
            exact ⟨rfl, h1, (hN.ch hd id id).ch h3 (by have := HGG.out; omega) (by have := HGG.out; have := HGN.out; omega), Below.ch hbd h3 hbd.size (fun k hk => by have := HGS.out; have := HGN.out; have := HGG.out; omega)⟩⟩
          have hs0 : wr.cell? ⟨gs, 0, none⟩ = some (.string s) := cell_of_blk hN.2
          clear hC hN HC
          go_wp2_with fail
          go_region_with (first
            | (go_at_call 46; refine (HGET.out _).mono ?_; rintro e w5 ⟨rfl, hC5, hN5, hb5⟩; have hs5 : w5.cell? ⟨gs, 0, none⟩ = some (.string s) := cell_of_blk hN5.2; have hn5 : w5.cell? ⟨gn, 0, none⟩ = some (.int .i64 1) := cell_of_blk hN5.1; have HC5 := Aside0.mk hC5; have HN5 := Aside0.mk hN5; have HB5 := Aside0.mk hb5; clear hC5 hN5 hb5)
            | (go_at_call 45; refine (lzMade g 1 0 1 _ _ _ HC5.out (.inr rfl)).mono ?_; rintro e w5 ⟨rfl, rfl⟩))
          all_goals
            go_wp2_with fail
            go_roundg (q - k)
            case measure => omega
            case rel => exact ⟨k + 1, by omega, by go_num, ⟨.inr ⟨by omega, HC5.out, HN5.out⟩⟩, HB5⟩
      · go_wp2_with fail
        refine (awake3 _).mono ?_
        rintro e w7 ⟨rfl, hb7⟩
        have HB7 := Aside0.mk (two_andl _ _ _ HB.out hb7)
        clear hb7
        go_wp2_with fail
        go_ret
        exact ⟨rfl, HB7.out⟩
end Go.Proofs.Ytckjgfbfjjiikaa.K
