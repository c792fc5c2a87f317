/- The stage: what it keeps; how many chunks, how many attempts. -/
import Derived.Test.YtckjgfbfjjiikaaS1
import Derived.Test.YtckjgfbfjjiikaaS2
import Derived.Deep.RegionHeld3
import Derived.RegionCalls
set_option linter.unusedVariables false
set_option linter.unusedSimpArgs false
set_option maxRecDepth 100000
namespace Go.Proofs.Ytckjgfbfjjiikaa.K
open Go.RowKit Go.Proofs.YtckjgfbfjjiikaaW.PrintWords Go.Proofs.YtckjgfbfjjiikaaW.PrintLast Go.Proofs.YtckjgfbfjjiikaaW.PrintMore Go.Proofs.Ytckjgfbfjjiikaa.U Go.Proofs.Ytckjgfbfjjiikaa.T
open Go.ChangeMaps (setBlock)

/-- The stage at block gs, its map at gr; own: of which attempt a block is; L: the map's entries; ks: the attempts of which there is something, M: their chunks. -/
structure StaP (w : World) (gs gr : Nat) (F : Nat → Prop) (own : Nat → Option (Int × Int)) (L : List Ent) (clock : Nat) (ks : List (Int × Int)) (M : Int → Int → List (List PairD)) : Prop where
  blk : w.heap[gs]? = some (.cells ([.map (some gr)] : List Value).toArray 83 (0, 0))
  map : MapIs w gr L clock
  keys : L.map (fun e => (e.a, e.b)) = ks
  nd : ks.Nodup
  sts : (L.map (·.s)).Nodup
  lt : ∀ e ∈ L, e.s < clock
  ne : ∀ e ∈ L, M e.a e.b ≠ []
  rows : ∀ e ∈ L, Kd.R kRows 45 w 0 (fun k => own k = some (e.a, e.b)) e.v (M e.a e.b)
  no : ∀ a b, (a, b) ∉ ks → M a b = []
  ogs : own gs = none
  ogr : own gr = none
  fgs : F gs
  fgr : F gr
  fo : ∀ k, own k ≠ none → F k
  flt : ∀ k, F k → k < w.heap.size
def StaR (w : World) (gs : Nat) (F : Nat → Prop) (ks : List (Int × Int)) (M : Int → Int → List (List PairD)) : Prop := ∃ gr own L clock, StaP w gs gr F own L clock ks M
theorem StaP.ch {w w' : World} {gs gr : Nat} {F : Nat → Prop} {own : Nat → Option (Int × Int)} {L : List Ent} {clock : Nat} {ks : List (Int × Int)} {M : Int → Int → List (List PairD)} (h : StaP w gs gr F own L clock ks M) {S : Nat → Prop} (hc : Ch w w' S) (hS : ∀ k, F k → ¬ S k) : StaP w' gs gr F own L clock ks M where
  blk := hc.blk h.blk (hS _ h.fgs)
  map := h.map.ch hc (hS _ h.fgr)
  keys := h.keys
  nd := h.nd
  sts := h.sts
  lt := h.lt
  ne := h.ne
  rows e he := Kd.R_step (h.rows e he) (fun k hk hlt => hc.block k hlt (hS k (h.fo k (by rw [hk]; simp))))
  no := h.no
  ogs := h.ogs
  ogr := h.ogr
  fgs := h.fgs
  fgr := h.fgr
  fo := h.fo
  flt k hk := Nat.lt_of_lt_of_le (h.flt k hk) hc.size
theorem StaR.ch {w w' : World} {gs : Nat} {F : Nat → Prop} {ks : List (Int × Int)} {M : Int → Int → List (List PairD)} (h : StaR w gs F ks M) {S : Nat → Prop} (hc : Ch w w' S) (hS : ∀ k, F k → ¬ S k) : StaR w' gs F ks M := by
  obtain ⟨gr, own, L, clock, h⟩ := h
  exact ⟨gr, own, L, clock, h.ch hc hS⟩
theorem StaR.flt {w : World} {gs : Nat} {F : Nat → Prop} {ks : List (Int × Int)} {M : Int → Int → List (List PairD)} (h : StaR w gs F ks M) : ∀ k, F k → k < w.heap.size := by
  obtain ⟨gr, own, L, clock, h⟩ := h
  exact h.flt
theorem StaR.below {w w' : World} {gs : Nat} {F : Nat → Prop} {ks : List (Int × Int)} {M : Int → Int → List (List PairD)} (h : StaR w gs F ks M) (hb : Below w.heap.size w w') : StaR w' gs F ks M := h.ch (Ch.of_below hb (fun _ => False)) (fun _ _ h => h)
/-- What stands at an attempt. -/
def lookV (L : List Ent) (a b : Int) : Value := ((findAt a b L 0).map (·.2)).getD nilS
theorem StaP.look {w : World} {gs gr : Nat} {F : Nat → Prop} {own : Nat → Option (Int × Int)} {L : List Ent} {clock : Nat} {ks : List (Int × Int)} {M : Int → Int → List (List PairD)} (h : StaP w gs gr F own L clock ks M) (a b : Int) :
    ∃ A c, lookV L a b = .slice A (M a b).length c ∧ (M a b).length ≤ c ∧ Kd.C kRows w A (M a b).length (M a b) := by
  rcases findAt_split a b L 0 with ⟨h1, h2⟩ | ⟨A, v, s, B, h1, h2, h3⟩
  · have hn : M a b = [] := h.no a b (fun hk => by
      rw [← h.keys] at hk
      obtain ⟨e, he, hk⟩ := List.mem_map.1 hk
      simp only [Prod.mk.injEq] at hk
      exact h2 e he hk)
    rw [hn]
    exact ⟨none, 0, by rw [lookV, h1]; rfl, Nat.le_refl _, Kd.C_nil _ _⟩
  · have hr := h.rows ⟨a, b, v, s⟩ (by rw [h1]; simp)
    obtain ⟨A1, c1, e1, hle, hC⟩ := Kd.R_reads hr
    exact ⟨A1, c1, by rw [lookV, h3]; exact e1, hle, hC⟩

theorem stNext (w : World) (gs : Nat) (F : Nat → Prop) (ks : List (Int × Int)) (M : Int → Int → List (List PairD)) (h : StaR w gs F ks M) (a b : Int) :
    Calls Try.prog 39 #[.pointer (some ⟨gs, 0, none⟩), .int .i64 a, .int .i64 b] w fun e w' => e = .returned (.int .i64 (M a b).length) ∧ w' = w := by
  obtain ⟨gr, own, L, clock, h⟩ := h
  obtain ⟨A, c, hl, _, _⟩ := h.look a b
  have hlk := lookup_run h.map a b
  rw [show ((findAt a b L 0).map (·.2)).getD nilS = lookV L a b from rfl, hl] at hlk
  unfold keyV at hlk
  have hc0 : w.cell? ⟨gs, 0, none⟩ = some (.map (some gr)) := cell_of_blk h.blk
  clear hl h
  go_enter Try.func39, Try.ntmps39
  go_wp2_with fail
  go_ret
  exact ⟨rfl, rfl⟩
theorem stCount (w : World) (gs : Nat) (F : Nat → Prop) (ks : List (Int × Int)) (M : Int → Int → List (List PairD)) (h : StaR w gs F ks M) :
    Calls Try.prog 38 #[.pointer (some ⟨gs, 0, none⟩)] w fun e w' => e = .returned (.int .i64 ks.length) ∧ w' = w := by
  obtain ⟨gr, own, L, clock, h⟩ := h
  have hlen := fun ty => len_run h.map #[81] rfl ty
  have hL : L.length = ks.length := by rw [← h.keys, List.length_map]
  rw [hL] at hlen
  have hc0 : w.cell? ⟨gs, 0, none⟩ = some (.map (some gr)) := cell_of_blk h.blk
  clear h hL
  go_enter Try.func38, Try.ntmps38
  go_wp2_with fail
  go_ret
  exact ⟨rfl, rfl⟩
theorem stNew (w : World) : Calls Try.prog 27 #[] w fun e w' => ∃ gs F, e = .returned (.pointer (some ⟨gs, 0, none⟩)) ∧ StaR w' gs F [] (fun _ _ => []) ∧ (∀ k, F k → w.heap.size ≤ k) ∧ Below w.heap.size w w' := by
  have hmk : Runs Try.prog (Instr.makeMap 81 none) w fun v w' => v = .map (some w.heap.size) ∧ w' = w.alloc (.map #[] 0) := ⟨_, _, run_makeMap _ _, rfl, rfl⟩
  have hb1 := (Below.refl w.heap.size w).alloc (Nat.le_refl _) (.map #[] 0)
  have hm1 : MapIs (w.alloc (.map #[] 0)) w.heap.size [] 0 := alloc_at w _
  have hsz : (w.alloc (.map #[] 0)).heap.size = w.heap.size + 1 := World.size_alloc _ _
  obtain ⟨w1, hw1⟩ : ∃ w1, w1 = w.alloc (.map #[] 0) := ⟨_, rfl⟩
  rw [← hw1] at hmk hb1 hm1 hsz
  have HB1 := Aside0.mk hb1
  have HM1 := Aside0.mk hm1
  have HSZ := Aside0.mk hsz
  clear hb1 hm1 hsz hw1
  go_enter Try.func27, Try.ntmps27
  go_wp2_with fail
  refine upon_runs hmk ?_
  rintro v w2 ⟨rfl, rfl⟩
  go_wp2_with fail
  go_ret
  have hb2 := (Below.refl w2.heap.size w2).alloc (Nat.le_refl _) (.cells #[.map (some w.heap.size)] 83)
  refine ⟨_, fun k => w.heap.size ≤ k ∧ k < w2.heap.size + 1, rfl, ⟨w.heap.size, fun _ => none, [], 0, ?_⟩, fun k hk => hk.1, below_then HB1.out HB1.out.size hb2⟩
  have hs := HSZ.out
  exact { blk := alloc_at w2 _, map := (hb2.block _ (blk_lt' HM1.out)).trans HM1.out, keys := rfl, nd := List.nodup_nil, sts := List.nodup_nil, lt := by simp, ne := by simp, rows := by simp, no := fun _ _ _ => rfl, ogs := rfl, ogr := rfl, fgs := by constructor <;> omega, fgr := by constructor <;> omega, fo := by simp, flt := fun k hk => Nat.lt_of_lt_of_eq hk.2 (World.size_alloc _ _).symm }
end Go.Proofs.Ytckjgfbfjjiikaa.K
