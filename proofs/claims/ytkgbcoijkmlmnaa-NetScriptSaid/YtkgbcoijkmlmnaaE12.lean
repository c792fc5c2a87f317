/- Rows of letters that hold no rows; what every program answers. -/
import Derived.Test.YtkgbcoijkmlmnaaE11
import Derived.Test.YtkgbcoijkmlmnaaE6
set_option linter.unusedVariables false
set_option linter.unusedSimpArgs false
set_option maxRecDepth 100000
namespace Go.Proofs.Ytkgbcoijkmlmnaa.K
open Go.RowKit Go.Proofs.YtkgbcoijkmlmnaaW.PrintWords Go.Proofs.YtkgbcoijkmlmnaaW.PrintLast Go.Proofs.YtkgbcoijkmlmnaaW.PrintMore Go.Proofs.Ytkgbcoijkmlmnaa.U Go.Proofs.Ytkgbcoijkmlmnaa.T

/-- A letter that holds no rows. -/
def nl (p : Int × Int) : LetD := ⟨p.1, p.2, nilMsg⟩
def nlL (p : Int × Int) : List Value := rawL (nl p) (.slice none 0 0) (.slice none 0 0)
theorem nl_K (w : World) (p : Int × Int) : kLet.K w (nl p) (nlL p) := kLet_mk (x := nl p) (A1 := none) (A2 := none) (c1 := 0) (c2 := 0) ⟨Kd.C_nil _ _, Kd.C_nil _ _, Nat.le_refl _, Nat.le_refl _⟩
theorem nl_M (w : World) (base : Nat) (ok : Nat → Prop) (p : Int × Int) : kLet.M w base ok (nl p) (nlL p) := kLet_mkM (x := nl p) (Kd.R_nil _ _ _ _ _) (Kd.R_nil _ _ _ _ _)
theorem C_of_cells {α β : Type} {d : Kd α} (f : β → List Value) (q : β → α) (hK : ∀ (w : World) x, d.K w (q x) (f x)) (hf : ∀ x, (f x).length = d.sz) (w : World) (xs : List β) {g : Nat} {t : TypeId} {fr : Nat × Nat} (h : w.heap[g]? = some (.cells ((xs.map f).flatten).toArray t fr)) (hl : xs.length ≤ 1000) : Kd.C d w (some ⟨g, 0, none⟩) (xs.map q).length (xs.map q) := by
  have hcell : ∀ j u, ((xs.map f).flatten)[j]? = some u → w.cell? ((⟨g, 0, none⟩ : Addr).add j) = some u := cells_of_blk h
  refine ⟨rfl, by rw [List.length_map]; show xs.length ≤ 9223372036854775807; omega, fun hk0 => ⟨_, rfl, fun j x hj => ?_⟩⟩
  rw [List.getElem?_map] at hj
  obtain ⟨y, hy, rfl⟩ := Option.map_eq_some_iff.1 hj
  refine ⟨f y, hf y, hK _ y, fun i u hu => ?_⟩
  refine hcell _ _ ?_
  have hi : i < d.sz := by rw [← hf y]; exact (List.getElem?_eq_some_iff.1 hu).1
  clear hcell hl hk0 h hj
  show ((xs.map f).flatten)[j * d.sz + i]? = some u
  induction xs generalizing j with
  | nil => simp at hy
  | cons v vs ih =>
    rw [List.map_cons, List.flatten_cons]
    cases j with
    | zero =>
      simp at hy
      subst hy
      rw [Nat.zero_mul, Nat.zero_add, List.getElem?_append_left (by rw [hf]; exact hi)]
      exact hu
    | succ j =>
      rw [List.getElem?_append_right (by rw [hf, Nat.succ_mul]; omega), hf]
      have := ih j (by simpa using hy)
      rw [show (j + 1) * d.sz + i - d.sz = j * d.sz + i from by rw [Nat.succ_mul]; omega]
      exact this
theorem nl_C (w : World) (xs : List (Int × Int)) {g : Nat} {t : TypeId} {fr : Nat × Nat} (h : w.heap[g]? = some (.cells ((xs.map nlL).flatten).toArray t fr)) (hl : xs.length ≤ 1000) : Kd.C kLet w (some ⟨g, 0, none⟩) (xs.map nl).length (xs.map nl) := C_of_cells nlL nl nl_K (fun _ => rfl) w xs h hl
end Go.Proofs.Ytkgbcoijkmlmnaa.K
