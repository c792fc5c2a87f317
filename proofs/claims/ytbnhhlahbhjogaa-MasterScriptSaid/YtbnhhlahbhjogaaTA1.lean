/- Counters: what each call does. -/
import Derived.Test.YtbnhhlahbhjogaaKL
import Derived.Test.YtbnhhlahbhjogaaCh
import Derived.Laws.LoneSync
import Derived.Deep.LoopGhost
import Derived.Deep.QuietTactic
import Derived.BigQuiet
import Derived.WalkSpells
set_option linter.unusedVariables false
set_option linter.unusedSimpArgs false
namespace Go.Proofs.Ytbnhhlahbhjogaa.K
open Go.RowKit Go.Proofs.YtbnhhlahbhjogaaW.PrintWords Go.Proofs.YtbnhhlahbhjogaaW.PrintLast Go.Proofs.YtbnhhlahbhjogaaW.PrintMore Go.Proofs.Ytbnhhlahbhjogaa.U Go.Proofs.Ytbnhhlahbhjogaa.T
attribute [local go_sem] max2_int min2_int

/-- Eight counters at block g. -/
structure TallyR (t : TypeId) (w : World) (base g : Nat) (C : List Int) : Prop where
  low : base ≤ g
  blk : w.heap[g]? = some (.cells (nums .i64 C).toArray t (0, 0))
  len : C.length = 8
  rng : ∀ x ∈ C, 0 ≤ x ∧ x ≤ 1099511627776
section
variable {t : TypeId} {w w' : World} {base g : Nat} {C : List Int} {S : Nat → Prop}
theorem TallyR.lt (h : TallyR t w base g C) : g < w.heap.size := blk_lt' h.blk
theorem TallyR.ch (h : TallyR t w base g C) (hc : Ch w w' S) (hS : ¬ S g) : TallyR t w' base g C := ⟨h.low, hc.blk h.blk hS, h.len, h.rng⟩
theorem TallyR.below (h : TallyR t w base g C) (hb : Below w.heap.size w w') : TallyR t w' base g C := ⟨h.low, (hb.block g h.lt).trans h.blk, h.len, h.rng⟩
theorem TallyR.cell (h : TallyR t w base g C) (k : Nat) (hk : k < 8) : w.cell? ⟨g, k, none⟩ = some (.int .i64 (rd C k)) := by
  rw [cell_of_blk h.blk]
  have := h.len
  simp [nums, rd, List.getD_eq_getElem?_getD, show k < C.length by omega]
theorem TallyR.frozen (h : TallyR t w base g C) (k : Nat) : w.frozen? ⟨g, k, none⟩ = false := frozen_of_blk h.blk
theorem TallyR.rd_rng (h : TallyR t w base g C) (k : Nat) (hk : k < 8) : 0 ≤ rd C k ∧ rd C k ≤ 1099511627776 := by
  have hl := h.len
  have : rd C k = C[k]'(by omega) := by simp [rd, List.getD_eq_getElem?_getD, show k < C.length by omega]
  rw [this]
  exact h.rng _ (List.getElem_mem _)
theorem TallyR.set (h : TallyR t w base g C) (k : Nat) (x : Int) (hx : 0 ≤ x ∧ x ≤ 1099511627776) : TallyR t (w.setCell ⟨g, k, none⟩ (.int .i64 x)) base g (C.set k x) := by
  refine ⟨h.low, ?_, by rw [List.length_set]; exact h.len, fun y hy => ?_⟩
  · have := setCell_blk (j := k) h.blk (.int .i64 x)
    rw [this]
    simp [nums, List.map_set]
  · rcases List.mem_or_eq_of_mem_set hy with hy | rfl
    · exact h.rng y hy
    · exact hx
end

theorem set_rd (C : List Int) (k : Nat) : C.set k (rd C k) = C := by
  rcases Nat.lt_or_ge k C.length with h | h
  · have : rd C k = C[k] := by simp [rd, List.getD_eq_getElem?_getD, h]
    rw [this, List.set_getElem_self]
  · rw [List.set_eq_of_length_le h]
/-- What is added. -/
def addN (n : Int) : Int := if n < 0 ∨ n > 1099511627776 then 0 else n
def addC (C : List Int) (i n : Int) : List Int := if i < 0 ∨ 8 ≤ i then C else C.set i.toNat (min (rd C i.toNat + addN n) 1099511627776)
def raiseN (n : Int) : Int := if n > 1099511627776 then 0 else n
def raiseC (C : List Int) (i n : Int) : List Int := if i < 0 ∨ 8 ≤ i then C else C.set i.toNat (max (rd C i.toNat) (raiseN n))
def getC (C : List Int) (i : Int) : Int := if i < 0 ∨ 8 ≤ i then 0 else rd C i.toNat

theorem load64 (a : Addr) (x : Int) (w : World) (hc : w.cell? a = some (.int .i64 x)) : Calls Try.prog 86 #[.pointer (some a)] w fun e w' => e = .returned (.int .i64 x) ∧ w' = w := by
  have hl := run_call_load (P := Try.prog) Try.func96 (by kernel_rfl) (by kernel_rfl) (by kernel_rfl) .i64 (by kernel_rfl) hc
  go_enter Try.func86, Try.ntmps86
  go_wp2
  go_ret
  exact ⟨rfl, rfl⟩
theorem cas64 (a : Addr) (x y : Int) (w : World) (hc : w.cell? a = some (.int .i64 x)) (hz : w.frozen? a = false) : Calls Try.prog 87 #[.pointer (some a), .int .i64 x, .int .i64 y] w fun e w' => e = .returned (.bool true) ∧ w' = w.setCell a (.int .i64 y) := by
  have hcas := run_call_cas_hit (P := Try.prog) Try.func97 (by kernel_rfl) (by kernel_rfl) (by kernel_rfl) .i64 (by kernel_rfl) (y := y) hc hz
  go_enter Try.func87, Try.ntmps87
  go_wp2
  go_ret
  exact ⟨rfl, rfl⟩
theorem add1 (pn : Addr) (n old m : Int) (w : World) (hc : w.cell? pn = some (.int .i64 n)) (h0 : 0 ≤ n) (h1 : n ≤ 1099511627776) (h2 : 0 ≤ old) (h3 : old ≤ 1099511627776) (hm : m = min (old + n) 1099511627776) :
    Calls Try.prog 71 #[.int .i64 old, .pointer (some pn)] w fun e w' => e = .returned (.int .i64 m) ∧ w' = w := by
  have HM := Aside0.mk hm
  clear hm
  go_enter Try.func71, Try.ntmps71
  go_wp2_with fail
  all_goals
    have hm := HM.out
    go_ret
    refine ⟨?_, rfl⟩
    first
      | (show Ending.returned (.int .i64 _) = Ending.returned (.int .i64 m); congr 2; omega)
theorem tAt (g k : Nat) (hk : k < 8) (w : World) : Calls Try.prog 70 #[.pointer (some ⟨g, 0, none⟩), .int .i64 k] w fun e w' => e = .returned (.pointer (some ⟨g, k, none⟩)) ∧ w' = w := by
  go_enter Try.func70, Try.ntmps70
  go_wp2_with fail
  go_ret
  exact ⟨rfl, rfl⟩
theorem tAt_no (g : Nat) (i : Int) (hi : i < 0 ∨ 8 ≤ i) (w : World) : Calls Try.prog 70 #[.pointer (some ⟨g, 0, none⟩), .int .i64 i] w fun e w' => e = .returned (.pointer none) ∧ w' = w := by
  rcases hi with h | h
  · go_enter Try.func70, Try.ntmps70
    go_wp2_with fail
    go_ret
    exact ⟨rfl, rfl⟩
  · have h0 : ¬ i < 0 := by omega
    go_enter Try.func70, Try.ntmps70
    go_wp2_with fail
    go_ret
    exact ⟨rfl, rfl⟩
theorem tAt_nil (i : Int) (w : World) : Calls Try.prog 70 #[.pointer none, .int .i64 i] w fun e w' => e = .returned (.pointer none) ∧ w' = w := by
  go_enter Try.func70, Try.ntmps70
  go_wp2_with fail
  go_ret
  exact ⟨rfl, rfl⟩
theorem change_nil (fv : Value) (w : World) : Calls Try.prog 69 #[.pointer none, fv] w fun e w' => e = .returned (.int .i64 0) ∧ w' = w := by
  go_enter Try.func69, Try.ntmps69
  go_wp2_with fail
  go_ret
  exact ⟨rfl, rfl⟩
theorem drawn_cell {w w' : World} (h : Drawn0 w w') {a : Addr} {v : Value} (hc : w.cell? a = some v) : w'.cell? a = some v := (h.below.cell (World.block_lt_of_cell? w _ hc)).trans hc

theorem change_add (t : TypeId) (base g k : Nat) (hk : k < 8) (C : List Int) (pn : Addr) (n x m : Int) (w : World) (h : TallyR t w base g C) (hc : w.cell? pn = some (.int .i64 n)) (h0 : 0 ≤ n) (h1 : n ≤ 1099511627776) (hx : x = rd C k) (hm : m = min (x + n) 1099511627776) :
    Calls Try.prog 69 #[.pointer (some ⟨g, k, none⟩), .func (.func 71) #[] #[.pointer (some pn)]] w fun e w' => e = .returned (.int .i64 m) ∧ TallyR t w' base g (C.set k m) ∧ Ch w w' (fun k => k = g) := by
  have H := Aside0.mk h
  have hcell := h.cell k hk
  have hr := h.rd_rng k hk
  rw [← hx] at hcell hr
  obtain ⟨hr0, hr1⟩ := hr
  have HX := Aside0.mk hx
  have HM := Aside0.mk hm
  have hm0 : 0 ≤ m := by omega
  have hm1 : m ≤ 1099511627776 := by omega
  clear h hx hm
  go_enter Try.func69, Try.ntmps69
  go_wp2_with fail
  go_loopg [] 0 (fun kq w' => w' = w)
  case atStart => rfl
  case round =>
    subst hrel
    go_wp2_with fail
    refine (load64 _ x _ hcell).mono ?_
    rintro e w1 ⟨rfl, rfl⟩
    go_wp2_with fail
    refine (add1 pn n x m _ hc h0 h1 hr0 hr1 HM.out).mono ?_
    rintro e w2 ⟨rfl, rfl⟩
    by_cases hxm : m = x
    · go_wp2_with fail
      go_ret
      subst hxm
      refine ⟨rfl, ?_, Ch.refl _ _⟩
      have h := H.out
      have e1 : C.set k m = C := by rw [HX.out]; exact set_rd C k
      rw [e1]
      exact h
    · have hxb : (m == x) = false := beq_eq_false_iff_ne.2 hxm
      have hfz := H.out.frozen k
      go_wp2_with fail
      refine (cas64 _ x m _ hcell hfz).mono ?_
      rintro e w3 ⟨rfl, rfl⟩
      go_wp2_with fail
      go_ret
      exact ⟨rfl, H.out.set k m ⟨hm0, hm1⟩, (Ch.refl _ _).setCell _ _ rfl⟩
end Go.Proofs.Ytbnhhlahbhjogaa.K
