/- Records, as they are read and made; what a body of bytes is read as, in plain lists. -/
import Derived.Test.YtkgbcoijkmlmnaaE1
set_option linter.unusedVariables false
set_option linter.unusedSimpArgs false
namespace Go.Proofs.Ytkgbcoijkmlmnaa.T
open Go.RowKit Go.Proofs.YtkgbcoijkmlmnaaW.PrintWords Go.Proofs.YtkgbcoijkmlmnaaW.PrintLast Go.Proofs.YtkgbcoijkmlmnaaW.PrintMore Go.Proofs.Ytkgbcoijkmlmnaa.U
structure RecD where
  k : Int
  p : Int
  s : Int
  a : Int
  r : Int
  set : List Int
  prs : List PairD
def kRec : Kd RecD := Kd.iso (Kd.pair kI (Kd.pair kI (Kd.pair kI (Kd.pair kI (Kd.pair kI (Kd.pair (Kd.slice 3 kI) (Kd.slice 114 kPair))))))) (fun x => (x.k, x.p, x.s, x.a, x.r, x.set, x.prs))
def GRec (x : RecD) : Prop := W64 x.k ∧ W64 x.p ∧ W64 x.s ∧ W64 x.a ∧ W64 x.r ∧ (∀ y ∈ x.set, W64 y) ∧ ∀ y ∈ x.prs, GPair y
theorem open_64 : Opens Try.prog 64 kRec GRec :=
  Opens.iso (Opens.struct Try.underlying64 (by kernel_rfl) (OpensF.cons (Opens.int Try.underlying3) rfl (by kernel_rfl) rfl (OpensF.cons (Opens.int Try.underlying3) rfl (by kernel_rfl) rfl (OpensF.cons (Opens.int Try.underlying3) rfl (by kernel_rfl) rfl (OpensF.cons (Opens.int Try.underlying3) rfl (by kernel_rfl) rfl (OpensF.cons (Opens.int Try.underlying3) rfl (by kernel_rfl) rfl (OpensF.cons open_31 rfl (by kernel_rfl) rfl (OpensF.one open_32 rfl (by kernel_rfl))))))))) _ (fun p => ⟨p.1, p.2.1, p.2.2.1, p.2.2.2.1, p.2.2.2.2.1, p.2.2.2.2.2.1, p.2.2.2.2.2.2⟩) (fun _ => rfl)
theorem open_54 : Opens Try.prog 54 (Kd.slice 64 kRec) (fun xs => ∀ x ∈ xs, GRec x) := Opens.slice 64 Try.underlying54 (by kernel_rfl) open_64
end Go.Proofs.Ytkgbcoijkmlmnaa.T
namespace Go.Proofs.Ytkgbcoijkmlmnaa.K
open Go.RowKit Go.Proofs.YtkgbcoijkmlmnaaW.PrintWords Go.Proofs.YtkgbcoijkmlmnaaW.PrintLast Go.Proofs.YtkgbcoijkmlmnaaW.PrintMore Go.Proofs.Ytkgbcoijkmlmnaa.U Go.Proofs.Ytkgbcoijkmlmnaa.T

/-- A record's cells. -/
def rawR (x : RecD) (sv pv : Value) : List Value := [.int .i64 x.k, .int .i64 x.p, .int .i64 x.s, .int .i64 x.a, .int .i64 x.r, sv, pv]
/-- A record as a value. -/
def recV (x : RecD) (sv pv : Value) : Value := .agg #[.int .i64 x.k, .int .i64 x.p, .int .i64 x.s, .int .i64 x.a, .int .i64 x.r, sv, pv]
/-- A record's rows, where they stand. -/
structure RecC (w : World) (m : RecD) (A1 A2 : Option Addr) (c1 c2 : Nat) : Prop where
  s : Kd.C kI w A1 m.set.length m.set
  p : Kd.C kPair w A2 m.prs.length m.prs
  ls : m.set.length ≤ c1
  lp : m.prs.length ≤ c2
theorem RecC.below {w w' : World} {m : RecD} {A1 A2 : Option Addr} {c1 c2 : Nat} (h : RecC w m A1 A2 c1 c2) (hb : Below w.heap.size w w') : RecC w' m A1 A2 c1 c2 := ⟨Kd.C_below h.s hb, Kd.C_below h.p hb, h.ls, h.lp⟩
theorem kRec_open {w : World} {x : RecD} {cs : List Value} (h : kRec.K w x cs) : ∃ A1 A2 c1 c2, cs = rawR x (.slice A1 x.set.length c1) (.slice A2 x.prs.length c2) ∧ RecC w x A1 A2 c1 c2 := by
  obtain ⟨_, _, rfl, rfl, ⟨_, _, rfl, rfl, ⟨_, _, rfl, rfl, ⟨_, _, rfl, rfl, ⟨_, _, rfl, rfl, ⟨_, _, rfl, ⟨A1, c1, rfl, hl1, h1⟩, ⟨A2, c2, rfl, hl2, h2⟩⟩⟩⟩⟩⟩⟩ := h
  exact ⟨A1, A2, c1, c2, rfl, h1, h2, hl1, hl2⟩
theorem kRec_mk {w : World} {x : RecD} {A1 A2 : Option Addr} {c1 c2 : Nat} (h : RecC w x A1 A2 c1 c2) : kRec.K w x (rawR x (.slice A1 x.set.length c1) (.slice A2 x.prs.length c2)) :=
  ⟨[_], _, rfl, rfl, ⟨[_], _, rfl, rfl, ⟨[_], _, rfl, rfl, ⟨[_], _, rfl, rfl, ⟨[_], _, rfl, rfl, ⟨[_], _, rfl, ⟨A1, c1, rfl, h.ls, h.s⟩, ⟨A2, c2, rfl, h.lp, h.p⟩⟩⟩⟩⟩⟩⟩
theorem kRec_openM {w : World} {base : Nat} {ok : Nat → Prop} {x : RecD} {cs : List Value} (h : kRec.M w base ok x cs) : ∃ sv pv, cs = rawR x sv pv ∧ Kd.R kI 3 w base ok sv x.set ∧ Kd.R kPair 114 w base ok pv x.prs := by
  obtain ⟨_, _, rfl, rfl, ⟨_, _, rfl, rfl, ⟨_, _, rfl, rfl, ⟨_, _, rfl, rfl, ⟨_, _, rfl, rfl, ⟨_, _, rfl, ⟨sv, rfl, h1⟩, ⟨pv, rfl, h2⟩⟩⟩⟩⟩⟩⟩ := h
  exact ⟨sv, pv, rfl, h1, h2⟩
theorem kRec_mkM {w : World} {base : Nat} {ok : Nat → Prop} {x : RecD} {sv pv : Value} (h1 : Kd.R kI 3 w base ok sv x.set) (h2 : Kd.R kPair 114 w base ok pv x.prs) : kRec.M w base ok x (rawR x sv pv) :=
  ⟨[_], _, rfl, rfl, ⟨[_], _, rfl, rfl, ⟨[_], _, rfl, rfl, ⟨[_], _, rfl, rfl, ⟨[_], _, rfl, rfl, ⟨[_], _, rfl, ⟨sv, rfl, h1⟩, ⟨pv, rfl, h2⟩⟩⟩⟩⟩⟩⟩
/-- The cells of record k of a row. -/
theorem at_rec {w : World} {A : Option Addr} {n : Nat} {xs : List RecD} (h : Kd.C kRec w A n xs) (k : Nat) (hk : k < xs.length) (z : RecD) : ∃ ad A1 A2 c1 c2, A = some ad ∧ RecC w xs[k] A1 A2 c1 c2 ∧ ∀ j u, (rawR xs[k] (.slice A1 xs[k].set.length c1) (.slice A2 xs[k].prs.length c2))[j]? = some u → w.cell? (ad.add (k * 7 + j)) = some u := by
  obtain ⟨ad, c, e, hl, hK, hc⟩ := Kd.C_get h z (k : Int) (by omega) (by have := Kd.C_len h; omega)
  have e2 : xs.getD (k : Int).toNat z = xs[k] := by rw [Int.toNat_natCast]; simp [List.getD_eq_getElem?_getD, hk]
  rw [e2] at hK
  obtain ⟨A1, A2, c1, c2, rfl, hC⟩ := kRec_open hK
  exact ⟨ad, A1, A2, c1, c2, e, hC, fun j u hj => by have := hc j u hj; rw [Int.toNat_natCast] at this; exact this⟩
end Go.Proofs.Ytkgbcoijkmlmnaa.K
