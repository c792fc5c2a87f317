/- Messages, letters and a net's acts, as they are read and made. -/
import Derived.Test.YtkgbcoijkmlmnaaT
import Derived.Test.YtkgbcoijkmlmnaaCh
set_option linter.unusedVariables false
set_option linter.unusedSimpArgs false
namespace Go.Proofs.Ytkgbcoijkmlmnaa.T
open Go.RowKit Go.Proofs.YtkgbcoijkmlmnaaW.PrintWords Go.Proofs.YtkgbcoijkmlmnaaW.PrintLast Go.Proofs.YtkgbcoijkmlmnaaW.PrintMore Go.Proofs.Ytkgbcoijkmlmnaa.U
structure MsgD where
  k : Int
  s : Int
  a : Int
  p : Int
  q : Int
  n : Int
  e : Int
  r : Int
  set : List Int
  prs : List PairD
structure LetD where
  fr : Int
  dst : Int
  m : MsgD
structure NActD where
  op : Int
  i : Int
  l : LetD
  m : LetD
abbrev kI : Kd Int := Kd.int .i64
def kMsg : Kd MsgD := Kd.iso (Kd.pair kI (Kd.pair kI (Kd.pair kI (Kd.pair kI (Kd.pair kI (Kd.pair kI (Kd.pair kI (Kd.pair kI (Kd.pair (Kd.slice 3 kI) (Kd.slice 114 kPair)))))))))) (fun x => (x.k, x.s, x.a, x.p, x.q, x.n, x.e, x.r, x.set, x.prs))
def kLet : Kd LetD := Kd.iso (Kd.pair kI (Kd.pair kI kMsg)) (fun x => (x.fr, x.dst, x.m))
def kNAct : Kd NActD := Kd.iso (Kd.pair kI (Kd.pair kI (Kd.pair kLet kLet))) (fun x => (x.op, x.i, x.l, x.m))
def W64 (n : Int) : Prop := (Lit.int .i64 n).wf = true
def GMsg (x : MsgD) : Prop := W64 x.k ∧ W64 x.s ∧ W64 x.a ∧ W64 x.p ∧ W64 x.q ∧ W64 x.n ∧ W64 x.e ∧ W64 x.r ∧ (∀ y ∈ x.set, W64 y) ∧ ∀ y ∈ x.prs, GPair y
def GLet (x : LetD) : Prop := W64 x.fr ∧ W64 x.dst ∧ GMsg x.m
def GNAct (x : NActD) : Prop := W64 x.op ∧ W64 x.i ∧ GLet x.l ∧ GLet x.m
theorem open_31 : Opens Try.prog 31 (Kd.slice 3 kI) (fun xs => ∀ x ∈ xs, W64 x) := Opens.slice 3 Try.underlying31 (by kernel_rfl) (Opens.int Try.underlying3)
theorem open_32 : Opens Try.prog 32 (Kd.slice 114 kPair) (fun xs => ∀ x ∈ xs, GPair x) := Opens.slice 114 Try.underlying32 (by kernel_rfl) open_114
theorem open_34 : Opens Try.prog 34 kMsg GMsg :=
  Opens.iso (Opens.struct Try.underlying34 (by kernel_rfl) (OpensF.cons (Opens.int Try.underlying3) rfl (by kernel_rfl) rfl (OpensF.cons (Opens.int Try.underlying3) rfl (by kernel_rfl) rfl (OpensF.cons (Opens.int Try.underlying3) rfl (by kernel_rfl) rfl (OpensF.cons (Opens.int Try.underlying3) rfl (by kernel_rfl) rfl (OpensF.cons (Opens.int Try.underlying3) rfl (by kernel_rfl) rfl (OpensF.cons (Opens.int Try.underlying3) rfl (by kernel_rfl) rfl (OpensF.cons (Opens.int Try.underlying3) rfl (by kernel_rfl) rfl (OpensF.cons (Opens.int Try.underlying3) rfl (by kernel_rfl) rfl (OpensF.cons open_31 rfl (by kernel_rfl) rfl (OpensF.one open_32 rfl (by kernel_rfl)))))))))))) _ (fun p => ⟨p.1, p.2.1, p.2.2.1, p.2.2.2.1, p.2.2.2.2.1, p.2.2.2.2.2.1, p.2.2.2.2.2.2.1, p.2.2.2.2.2.2.2.1, p.2.2.2.2.2.2.2.2.1, p.2.2.2.2.2.2.2.2.2⟩) (fun _ => rfl)
theorem open_36 : Opens Try.prog 36 kLet GLet :=
  Opens.iso (Opens.struct Try.underlying36 (by kernel_rfl) (OpensF.cons (Opens.int Try.underlying3) rfl (by kernel_rfl) rfl (OpensF.cons (Opens.int Try.underlying3) rfl (by kernel_rfl) rfl (OpensF.one open_34 rfl (by kernel_rfl))))) _ (fun p => ⟨p.1, p.2.1, p.2.2⟩) (fun _ => rfl)
theorem open_38 : Opens Try.prog 38 kNAct GNAct :=
  Opens.iso (Opens.struct Try.underlying38 (by kernel_rfl) (OpensF.cons (Opens.int Try.underlying3) rfl (by kernel_rfl) rfl (OpensF.cons (Opens.int Try.underlying3) rfl (by kernel_rfl) rfl (OpensF.cons open_36 rfl (by kernel_rfl) rfl (OpensF.one open_36 rfl (by kernel_rfl)))))) _ (fun p => ⟨p.1, p.2.1, p.2.2.1, p.2.2.2⟩) (fun _ => rfl)
end Go.Proofs.Ytkgbcoijkmlmnaa.T
namespace Go.Proofs.Ytkgbcoijkmlmnaa.K
open Go.RowKit Go.Proofs.YtkgbcoijkmlmnaaW.PrintWords Go.Proofs.YtkgbcoijkmlmnaaW.PrintLast Go.Proofs.YtkgbcoijkmlmnaaW.PrintMore Go.Proofs.Ytkgbcoijkmlmnaa.U Go.Proofs.Ytkgbcoijkmlmnaa.T

/-- A letter's cells. -/
def rawL (x : LetD) (sv pv : Value) : List Value := [.int .i64 x.fr, .int .i64 x.dst, .int .i64 x.m.k, .int .i64 x.m.s, .int .i64 x.m.a, .int .i64 x.m.p, .int .i64 x.m.q, .int .i64 x.m.n, .int .i64 x.m.e, .int .i64 x.m.r, sv, pv]
/-- A letter's rows, where they stand. -/
structure MsgC (w : World) (m : MsgD) (A1 A2 : Option Addr) (c1 c2 : Nat) : Prop where
  s : Kd.C kI w A1 m.set.length m.set
  p : Kd.C kPair w A2 m.prs.length m.prs
  ls : m.set.length ≤ c1
  lp : m.prs.length ≤ c2
theorem MsgC.below {w w' : World} {m : MsgD} {A1 A2 : Option Addr} {c1 c2 : Nat} (h : MsgC w m A1 A2 c1 c2) (hb : Below w.heap.size w w') : MsgC w' m A1 A2 c1 c2 := ⟨Kd.C_below h.s hb, Kd.C_below h.p hb, h.ls, h.lp⟩
theorem kLet_open {w : World} {x : LetD} {cs : List Value} (h : kLet.K w x cs) : ∃ A1 A2 c1 c2, cs = rawL x (.slice A1 x.m.set.length c1) (.slice A2 x.m.prs.length c2) ∧ MsgC w x.m A1 A2 c1 c2 := by
  obtain ⟨_, _, rfl, rfl, ⟨_, _, rfl, rfl, ⟨_, _, rfl, rfl, ⟨_, _, rfl, rfl, ⟨_, _, rfl, rfl, ⟨_, _, rfl, rfl, ⟨_, _, rfl, rfl, ⟨_, _, rfl, rfl, ⟨_, _, rfl, rfl, ⟨_, _, rfl, rfl, ⟨_, _, rfl, ⟨A1, c1, rfl, hl1, h1⟩, ⟨A2, c2, rfl, hl2, h2⟩⟩⟩⟩⟩⟩⟩⟩⟩⟩⟩⟩ := h
  exact ⟨A1, A2, c1, c2, rfl, h1, h2, hl1, hl2⟩
theorem kLet_mk {w : World} {x : LetD} {A1 A2 : Option Addr} {c1 c2 : Nat} (h : MsgC w x.m A1 A2 c1 c2) : kLet.K w x (rawL x (.slice A1 x.m.set.length c1) (.slice A2 x.m.prs.length c2)) :=
  ⟨[_], _, rfl, rfl, ⟨[_], _, rfl, rfl, ⟨[_], _, rfl, rfl, ⟨[_], _, rfl, rfl, ⟨[_], _, rfl, rfl, ⟨[_], _, rfl, rfl, ⟨[_], _, rfl, rfl, ⟨[_], _, rfl, rfl, ⟨[_], _, rfl, rfl, ⟨[_], _, rfl, rfl, ⟨[_], _, rfl, ⟨A1, c1, rfl, h.ls, h.s⟩, ⟨A2, c2, rfl, h.lp, h.p⟩⟩⟩⟩⟩⟩⟩⟩⟩⟩⟩⟩
theorem kLet_openM {w : World} {base : Nat} {ok : Nat → Prop} {x : LetD} {cs : List Value} (h : kLet.M w base ok x cs) : ∃ sv pv, cs = rawL x sv pv ∧ Kd.R kI 3 w base ok sv x.m.set ∧ Kd.R kPair 114 w base ok pv x.m.prs := by
  obtain ⟨_, _, rfl, rfl, ⟨_, _, rfl, rfl, ⟨_, _, rfl, rfl, ⟨_, _, rfl, rfl, ⟨_, _, rfl, rfl, ⟨_, _, rfl, rfl, ⟨_, _, rfl, rfl, ⟨_, _, rfl, rfl, ⟨_, _, rfl, rfl, ⟨_, _, rfl, rfl, ⟨_, _, rfl, ⟨sv, rfl, h1⟩, ⟨pv, rfl, h2⟩⟩⟩⟩⟩⟩⟩⟩⟩⟩⟩⟩ := h
  exact ⟨sv, pv, rfl, h1, h2⟩
theorem kLet_mkM {w : World} {base : Nat} {ok : Nat → Prop} {x : LetD} {sv pv : Value} (h1 : Kd.R kI 3 w base ok sv x.m.set) (h2 : Kd.R kPair 114 w base ok pv x.m.prs) : kLet.M w base ok x (rawL x sv pv) :=
  ⟨[_], _, rfl, rfl, ⟨[_], _, rfl, rfl, ⟨[_], _, rfl, rfl, ⟨[_], _, rfl, rfl, ⟨[_], _, rfl, rfl, ⟨[_], _, rfl, rfl, ⟨[_], _, rfl, rfl, ⟨[_], _, rfl, rfl, ⟨[_], _, rfl, rfl, ⟨[_], _, rfl, rfl, ⟨[_], _, rfl, ⟨sv, rfl, h1⟩, ⟨pv, rfl, h2⟩⟩⟩⟩⟩⟩⟩⟩⟩⟩⟩⟩
end Go.Proofs.Ytkgbcoijkmlmnaa.K
