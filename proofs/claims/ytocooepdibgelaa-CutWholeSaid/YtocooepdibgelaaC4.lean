/- The statements of chapter 10. -/
import Derived.Test.YtocooepdibgelaaC3
import Derived.Deep.RegionHeld3
set_option linter.unusedVariables false
set_option linter.unusedSimpArgs false
namespace Go.Proofs.Ytocooepdibgelaa.K
open Go.RowKit Go.Proofs.YtocooepdibgelaaW.PrintWords Go.Proofs.YtocooepdibgelaaW.PrintLast Go.Proofs.YtocooepdibgelaaW.PrintMore Go.Proofs.Ytocooepdibgelaa.U Go.Proofs.Ytocooepdibgelaa.T
attribute [local go_sem high] eqA_pair
attribute [local go_sem] max2_int min2_int

theorem lit_pairs10 (w : World) (xs : List PairD) (e : Nat) (arr : Array Value) (h : arr = (cellsP xs).toArray) (hl : xs.length ≤ 9223372036854775807) : Kd.C kPair (w.alloc (.cells arr e)) (some ⟨w.heap.size, 0, none⟩) xs.length xs := by
  subst h
  exact blk_pairs (rest := []) (by rw [List.append_nil]; exact alloc_at w _) hl
def psA : List PairD := [⟨⟨#[97]⟩, ⟨#[]⟩⟩, ⟨⟨#[98]⟩, ⟨#[]⟩⟩, ⟨⟨#[99]⟩, ⟨#[]⟩⟩]


theorem lit_rows2 (W : World) (A0 A1 : Option Addr) (c0 c1 : Nat) (l0 l1 : List PairD) (e : TypeId) (arr : Array Value) (h : arr = #[.slice A0 l0.length c0, .slice A1 l1.length c1]) (h0 : Kd.C kPair W A0 l0.length l0) (h1 : Kd.C kPair W A1 l1.length l1) (k0 : l0.length ≤ c0) (k1 : l1.length ≤ c1) :
    Kd.C kRows (W.alloc (.cells arr e)) (some ⟨W.heap.size, 0, none⟩) 2 [l0, l1] := by
  subst h
  have hb : Below W.heap.size W (W.alloc (.cells #[.slice A0 l0.length c0, .slice A1 l1.length c1] e)) := (Below.refl _ _).alloc (Nat.le_refl _) _
  refine ⟨rfl, by simp, fun _ => ⟨_, rfl, fun j p hj => ?_⟩⟩
  match j, hj with
  | 0, hj =>
    obtain rfl : l0 = p := by simpa using hj
    exact ⟨[.slice A0 l0.length c0], rfl, ⟨A0, c0, rfl, k0, Kd.C_below h0 hb⟩, fun i u hu => by
      rw [Nat.zero_mul, Nat.zero_add]
      exact cells_new W [.slice A0 l0.length c0, .slice A1 l1.length c1] e i u (by cases i with | zero => exact hu | succ i => simp at hu)⟩
  | 1, hj =>
    obtain rfl : l1 = p := by simpa using hj
    refine ⟨[.slice A1 l1.length c1], rfl, ⟨A1, c1, rfl, k1, Kd.C_below h1 hb⟩, fun i u hu => cells_new W [.slice A0 l0.length c0, .slice A1 l1.length c1] e (1 * 1 + i) u ?_⟩
    cases i with
    | zero => exact hu
    | succ i => simp at hu

set_option maxHeartbeats 3200000 in
theorem awake10 (w : World) : Calls Try.prog 42 #[] w fun e w' => e = .returned (.bool true) ∧ Below w.heap.size w w' := by
  have hu := Try.underlying37
  have s1 : sizeN 2 1 = 3 := rfl
  have s2 : sizeN 2 2 = 2 := rfl
  have c5 : chunksN 5 2 = 3 := rfl
  obtain ⟨g, hg⟩ : ∃ g, g = w.heap.size := ⟨_, rfl⟩
  obtain ⟨w1, hw1⟩ : ∃ w1, w1 = w.alloc (.cells (cellsP psA).toArray 37) := ⟨_, rfl⟩
  have hw1' : w.alloc (.cells #[.string ⟨#[97]⟩, .string ⟨#[]⟩, .string ⟨#[98]⟩, .string ⟨#[]⟩, .string ⟨#[99]⟩, .string ⟨#[]⟩] 37) = w1 := hw1.symm
  have hp := lit_pairs10 w psA 37 _ rfl (by decide)
  have hb := (Below.refl w.heap.size w).alloc (Nat.le_refl _) (.cells (cellsP psA).toArray 37)
  rw [← hw1, ← hg] at hp
  rw [← hw1] at hb
  have HB := Aside0.mk (below_drew1 hb)
  have hp1 : Kd.C kPair w1.drew (some ⟨g, 0, none⟩) 3 psA := Kd.C_drewN hp 1
  have HP := Aside0.mk hp1
  have HM0 : Aside0 (Kd.C kPair w1.drew (some ⟨g, 0, none⟩) 1 (psA.take 1)) := ⟨Kd.C_take (m := 1) hp1 (by decide)⟩
  have HM1 : Aside0 (Kd.C kPair w1.drew (some ⟨g, 2, none⟩) 2 (psA.drop 1)) := ⟨Kd.C_mid (lo := 1) (hi := 3) (c := 3) hp1 (by decide) (by decide) (by decide)⟩
  have HM2 : Aside0 (Kd.C kPair w1.drew (some ⟨g, 4, none⟩) 1 (psA.drop 2)) := ⟨Kd.C_mid (lo := 2) (hi := 3) (c := 3) hp1 (by decide) (by decide) (by decide)⟩
  have hx : chunkL psA 2 1 = psA.drop 2 := by
    unfold chunkL
    rw [if_neg (by decide)]
    rfl
  have HXX := Aside0.mk hx
  have HFL : Aside0 ([psA.take 1, psA.drop 1].flatten = psA) := ⟨rfl⟩
  have HW := Aside0.mk hw1'
  have HG := Aside0.mk hg
  obtain ⟨o, ho⟩ : ∃ o, o = Obj.cells (cellsP psA).toArray 37 (0, 0) := ⟨_, rfl⟩
  have hk1 : w1.drew.heap[g]? = some o := by rw [ho, hw1, hg]; exact alloc_at w _
  clear hp hb hp1 hx hw1 hw1' hg ho
  go_enter Try.func42, Try.ntmps42
  go_wp2_with fail
  rw [HW.out, ← HG.out]
  clear HW
  go_region_held3 (fun w' => w'.heap[g]? = some o) (first | assumption | exact alloc_keeps (by assumption) _)
   (first
    | (go_at_call 45; refine (sizeC _ _ _ (by decide) (by decide)).mono ?_; rintro e w5 ⟨rfl, rfl⟩; first | rw [s1] | rw [s2])
    | (go_at_call 47; refine (chunks _ _ _ (by decide)).mono ?_; rintro e w5 ⟨rfl, rfl⟩; rw [c5])
    | (go_at_call 43; refine (chunk _ _ psA 2 1 _ HP.out (by decide) (by decide) (by decide)).mono ?_; rintro e w3 ⟨v3, X3, rfl, hv3, HX3, hb3⟩; obtain ⟨A3, k3, rfl, _, hr3⟩ := hv3.reads; have HR3 := Aside0.mk hr3; have HB3 := Aside0.mk (below_then HB.out HB.out.size hb3); have HBB := Aside0.mk hb3; have hk3 := (hb3.block g (blk_lt' hk1)).trans hk1; clear hv3 hb3 hr3)
    | (go_at_call 23; refine (samePairs _ _ X6 _ _ psA _ HR6.out (Kd.C_below HP.out HBB6.out) true (by rw [HX6.out, HFL.out]; simp)).mono ?_; rintro e w7 ⟨rfl, hb7⟩; have HB7 := Aside0.mk (below_then HB6.out HB6.out.size hb7); have hk7 := (hb7.block g (blk_lt' hk6)).trans hk6; clear hb7)
    | (go_at_call 23; refine (samePairs _ _ X3 _ _ (psA.drop 2) _ HR3.out (Kd.C_below HM2.out HBB.out) true (by rw [HX3.out, HXX.out]; simp)).mono ?_; rintro e w4 ⟨rfl, hb4⟩; have HB4 := Aside0.mk (below_then HB3.out HB3.out.size hb4); have HBB4 := Aside0.mk (below_then HBB.out HBB.out.size hb4); have hk4 := (hb4.block g (blk_lt' hk3)).trans hk3; clear hb4)
    | (go_at_call 49; refine (joinC _ _ [psA.take 1, psA.drop 1] _ (lit_rows2 w4 _ _ 3 2 (psA.take 1) (psA.drop 1) _ _ rfl (Kd.C_below HM0.out HBB4.out) (Kd.C_below HM1.out HBB4.out) (by decide) (by decide)) (by decide)).mono ?_; rintro e w6 ⟨v6, X6, rfl, hv6, HX6, hb6⟩; obtain ⟨A6, k6, rfl, _, hr6⟩ := hv6.reads; have HR6 := Aside0.mk hr6; have HB6 := Aside0.mk (below_then (HB4.out.alloc HB4.out.size _) (HB4.out.alloc HB4.out.size _).size hb6); have HBB6 := Aside0.mk (below_then (HBB4.out.alloc HBB4.out.size _) (HBB4.out.alloc HBB4.out.size _).size hb6); have hk6 := (hb6.block g (blk_lt' (alloc_keeps hk4 _))).trans (alloc_keeps hk4 _); clear hv6 hb6 hr6))
  go_wp2_with fail
  go_ret
  exact ⟨rfl, HB7.out⟩
end Go.Proofs.Ytocooepdibgelaa.K
