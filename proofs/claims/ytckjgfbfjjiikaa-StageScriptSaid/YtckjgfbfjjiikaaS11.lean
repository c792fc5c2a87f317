/- The document's stage: what it holds. -/
import Derived.Test.YtckjgfbfjjiikaaS6
set_option linter.unusedVariables false
set_option linter.unusedSimpArgs false
set_option maxRecDepth 100000
namespace Go.Proofs.Ytckjgfbfjjiikaa.K
open Go.RowKit Go.Proofs.YtckjgfbfjjiikaaW.PrintWords Go.Proofs.YtckjgfbfjjiikaaW.PrintLast Go.Proofs.YtckjgfbfjjiikaaW.PrintMore Go.Proofs.Ytckjgfbfjjiikaa.U Go.Proofs.Ytckjgfbfjjiikaa.T

/-- A slice's head. -/
structure Hd where
  A : Option Addr
  n : Nat
  c : Nat
def hdV (x : Hd) : Value := .slice x.A x.n x.c
def kHd : Kd Hd := Kd.scalar hdV (fun _ => rfl)
theorem flat_hd : Flat kHd := flat_scalar _ _
/-- A row of the document's stage. -/
structure ER where
  a : Int
  b : Int
  v : Value
  hs : List Hd
def rawE (z : ER) : List Value := [.int .i64 z.a, .int .i64 z.b, z.v]
def OkE (z : ER) (cs : List Value) : Prop := cs = rawE z ∧ z.v.oneCell' = true
def kER : Kd ER where
  sz := 3
  E := []
  K := fun _ z cs => OkE z cs
  M := fun _ _ _ z cs => OkE z cs
  K_len := by
    rintro w z cs ⟨rfl, _⟩
    rfl
  K_one := by
    rintro w z cs ⟨rfl, h1⟩ u hu
    simp only [rawE, List.mem_cons, List.not_mem_nil, or_false] at hu
    rcases hu with rfl | rfl | rfl
    all_goals first | exact h1 | rfl
  K_below := fun _ h => h
  K_of_M := fun h => h
  M_mono := fun _ h => h
  M_bound := fun h => h
  M_move := fun _ h => h
  M_lower := fun _ h => h
theorem flat_ER : Flat kER := ⟨fun h _ _ _ => h⟩
def zeroER : ER := ⟨0, 0, .slice none 0 0, []⟩
theorem info_ER : (Try.prog.info? 87).map (fun i => (i.zero, i.size, i.bytes)) = some (some (.agg #[.int .i64 0, .int .i64 0, .slice none 0 0]), 3, 40) := by kernel_rfl
theorem info_hd18 : (Try.prog.info? 45).map (fun i => (i.zero, i.size, i.bytes)) = some (some (.slice none 0 0), 1, 24) := by kernel_rfl
/-- The document's stage stands at gR; all of it in P's blocks, what was put in Z's. -/
structure RefP (w : World) (gR : Nat) (P Z : Nat → Prop) (v : Value) (es : List ER) (ks : List (Int × Int)) (M : Int → Int → List (List PairD)) : Prop where
  blk : w.heap[gR]? = some (.cells ([v] : List Value).toArray 44 (0, 0))
  row : Own kER 87 w 0 v es
  keys : es.map (fun e => (e.a, e.b)) = ks
  hd : ∀ e ∈ es, Own kHd 45 w 0 e.v e.hs ∧ (∀ k, e.v.ownBlock = some k → Z k) ∧ e.hs.length = (M e.a e.b).length
  ch : ∀ e ∈ es, ∀ k (h1 : k < e.hs.length) (h2 : k < (M e.a e.b).length), Kd.R kPair 80 w 0 Z (hdV e.hs[k]) (M e.a e.b)[k]
  pR : P gR
  pV : ∀ k, v.ownBlock = some k → P k ∧ k ≠ gR ∧ ¬ Z k
  pZ : ∀ k, Z k → P k ∧ k ≠ gR
  plt : ∀ k, P k → k < w.heap.size
def RefS (w : World) (gR : Nat) (P : Nat → Prop) (ks : List (Int × Int)) (M : Int → Int → List (List PairD)) : Prop := ∃ Z v es, RefP w gR P Z v es ks M
section
variable {w w' : World} {gR : Nat} {P Z S : Nat → Prop} {v : Value} {es : List ER} {ks : List (Int × Int)} {M : Int → Int → List (List PairD)}
theorem RefP.stay (p : RefP w gR P Z v es ks M) (hc : Ch w w' S) (hS : ∀ k, P k → ¬ S k) : RefP w' gR P Z v es ks M where
  blk := hc.blk p.blk (hS _ p.pR)
  row := p.row.ch flat_ER hc (fun k hk => hS k (p.pV k hk).1)
  keys := p.keys
  hd e he := ⟨(p.hd e he).1.ch flat_hd hc (fun k hk => hS k (p.pZ k ((p.hd e he).2.1 k hk)).1), (p.hd e he).2⟩
  ch e he k h1 h2 := Kd.R_step (p.ch e he k h1 h2) (fun i hi hlt => hc.block i hlt (hS i (p.pZ i hi).1))
  pR := p.pR
  pV := p.pV
  pZ := p.pZ
  plt k hk := Nat.lt_of_lt_of_le (p.plt k hk) hc.size
theorem RefP.below (p : RefP w gR P Z v es ks M) (hb : Below w.heap.size w w') : RefP w' gR P Z v es ks M := p.stay (Ch.of_below hb (fun _ => False)) (fun _ _ h => h)
theorem RefS.stay (p : RefS w gR P ks M) (hc : Ch w w' S) (hS : ∀ k, P k → ¬ S k) : RefS w' gR P ks M := by
  obtain ⟨Z, v, es, p⟩ := p
  exact ⟨Z, v, es, p.stay hc hS⟩
theorem RefS.below (p : RefS w gR P ks M) (hb : Below w.heap.size w w') : RefS w' gR P ks M := p.stay (Ch.of_below hb (fun _ => False)) (fun _ _ h => h)
theorem RefP.len (p : RefP w gR P Z v es ks M) : es.length = ks.length := by rw [← p.keys, List.length_map]
theorem RefP.key (p : RefP w gR P Z v es ks M) (k : Nat) (h1 : k < es.length) (h2 : k < ks.length) : ks[k] = (es[k].a, es[k].b) := by
  have h := p.keys
  subst h
  simp
theorem RefP.c_v (p : RefP w gR P Z v es ks M) : w.cell? ⟨gR, 0, none⟩ = some v := cell_of_blk p.blk
/-- Where a row's cells stand. -/
theorem RefP.form (p : RefP w gR P Z v es ks M) : ∃ A c, v = .slice A es.length c ∧ es.length ≤ c ∧ Kd.C kER w A es.length es := by
  obtain ⟨A, c, e, hle, hC⟩ := p.row.reads
  exact ⟨A, c, e, hle, hC⟩
theorem at_ER {A : Option Addr} {n : Nat} (h : Kd.C kER w A n es) (k : Nat) (hk : k < es.length) : ∃ ad, A = some ad ∧ w.cell? (ad.add (k * 3)) = some (.int .i64 es[k].a) ∧ w.cell? (ad.add (k * 3 + 1)) = some (.int .i64 es[k].b) ∧ w.cell? (ad.add (k * 3 + 2)) = some es[k].v := by
  obtain ⟨h1, h2, h3⟩ := h
  obtain ⟨ad, e, hc⟩ := h3 (by omega)
  obtain ⟨cs, hl, ⟨rfl, _⟩, hcell⟩ := hc k es[k] (List.getElem?_eq_getElem hk)
  exact ⟨ad, e, hcell 0 _ rfl, hcell 1 _ rfl, hcell 2 _ rfl⟩
end
end Go.Proofs.Ytckjgfbfjjiikaa.K
