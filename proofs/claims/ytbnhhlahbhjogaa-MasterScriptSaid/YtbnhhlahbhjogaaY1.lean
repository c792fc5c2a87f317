/- Messages, letters, records, a master's acts. -/
import Derived.Test.YtbnhhlahbhjogaaJ3
import Derived.Test.YtbnhhlahbhjogaaTB2
import Derived.Test.YtbnhhlahbhjogaaKQ2
import Derived.Test.YtbnhhlahbhjogaaKI
import Derived.Deep.RegionHeldLaw
import Derived.WalkSpells
set_option linter.unusedVariables false
set_option linter.unusedSimpArgs false
set_option maxRecDepth 100000
namespace Go.Proofs.Ytbnhhlahbhjogaa.T
open Go.RowKit Go.Proofs.YtbnhhlahbhjogaaW.PrintWords Go.Proofs.YtbnhhlahbhjogaaW.PrintLast Go.Proofs.YtbnhhlahbhjogaaW.PrintMore Go.Proofs.Ytbnhhlahbhjogaa.U Go.Proofs.Ytbnhhlahbhjogaa.K
structure MsgD where
  k : Int
  s : Int
  a : Int
  p : Int
  q : Int
  n : Int
  e : Int
  r : Int
  set : List Int
  prs : List PairD
structure LetD where
  fr : Int
  dst : Int
  m : MsgD
abbrev kI : Kd Int := Kd.int .i64
def kMsg : Kd MsgD := Kd.iso (Kd.pair kI (Kd.pair kI (Kd.pair kI (Kd.pair kI (Kd.pair kI (Kd.pair kI (Kd.pair kI (Kd.pair kI (Kd.pair (Kd.slice 3 kI) (Kd.slice 113 kPair)))))))))) (fun x => (x.k, x.s, x.a, x.p, x.q, x.n, x.e, x.r, x.set, x.prs))
def kLet : Kd LetD := Kd.iso (Kd.pair kI (Kd.pair kI kMsg)) (fun x => (x.fr, x.dst, x.m))
def GMsg (x : MsgD) : Prop := W64 x.k ∧ W64 x.s ∧ W64 x.a ∧ W64 x.p ∧ W64 x.q ∧ W64 x.n ∧ W64 x.e ∧ W64 x.r ∧ (∀ y ∈ x.set, W64 y) ∧ ∀ y ∈ x.prs, GPair y
def GLet (x : LetD) : Prop := W64 x.fr ∧ W64 x.dst ∧ GMsg x.m
theorem open_45 : Opens Try.prog 45 kMsg GMsg :=
  Opens.iso (Opens.struct Try.underlying45 (by kernel_rfl) (OpensF.cons (Opens.int Try.underlying3) rfl (by kernel_rfl) rfl (OpensF.cons (Opens.int Try.underlying3) rfl (by kernel_rfl) rfl (OpensF.cons (Opens.int Try.underlying3) rfl (by kernel_rfl) rfl (OpensF.cons (Opens.int Try.underlying3) rfl (by kernel_rfl) rfl (OpensF.cons (Opens.int Try.underlying3) rfl (by kernel_rfl) rfl (OpensF.cons (Opens.int Try.underlying3) rfl (by kernel_rfl) rfl (OpensF.cons (Opens.int Try.underlying3) rfl (by kernel_rfl) rfl (OpensF.cons (Opens.int Try.underlying3) rfl (by kernel_rfl) rfl (OpensF.cons open_24 rfl (by kernel_rfl) rfl (OpensF.one open_43 rfl (by kernel_rfl)))))))))))) _ (fun p => ⟨p.1, p.2.1, p.2.2.1, p.2.2.2.1, p.2.2.2.2.1, p.2.2.2.2.2.1, p.2.2.2.2.2.2.1, p.2.2.2.2.2.2.2.1, p.2.2.2.2.2.2.2.2.1, p.2.2.2.2.2.2.2.2.2⟩) (fun _ => rfl)
theorem open_51 : Opens Try.prog 51 kLet GLet :=
  Opens.iso (Opens.struct Try.underlying51 (by kernel_rfl) (OpensF.cons (Opens.int Try.underlying3) rfl (by kernel_rfl) rfl (OpensF.cons (Opens.int Try.underlying3) rfl (by kernel_rfl) rfl (OpensF.one open_45 rfl (by kernel_rfl))))) _ (fun p => ⟨p.1, p.2.1, p.2.2⟩) (fun _ => rfl)
structure MActD where
  op : Int
  fr : Int
  m : MsgD
def kMAct : Kd MActD := Kd.iso (Kd.pair kI (Kd.pair kI kMsg)) (fun x => (x.op, x.fr, x.m))
def GMAct (x : MActD) : Prop := W64 x.op ∧ W64 x.fr ∧ GMsg x.m
theorem open_70 : Opens Try.prog 70 kMAct GMAct :=
  Opens.iso (Opens.struct Try.underlying70 (by kernel_rfl) (OpensF.cons (Opens.int Try.underlying3) rfl (by kernel_rfl) rfl (OpensF.cons (Opens.int Try.underlying3) rfl (by kernel_rfl) rfl (OpensF.one open_45 rfl (by kernel_rfl))))) _ (fun p => ⟨p.1, p.2.1, p.2.2⟩) (fun _ => rfl)
theorem open_61 : Opens Try.prog 61 (Kd.slice 70 kMAct) (fun xs => ∀ x ∈ xs, GMAct x) := Opens.slice 70 Try.underlying61 (by kernel_rfl) open_70
structure RecD where
  k : Int
  p : Int
  s : Int
  a : Int
  r : Int
  set : List Int
  prs : List PairD
def kRec : Kd RecD := Kd.iso (Kd.pair kI (Kd.pair kI (Kd.pair kI (Kd.pair kI (Kd.pair kI (Kd.pair (Kd.slice 3 kI) (Kd.slice 113 kPair))))))) (fun x => (x.k, x.p, x.s, x.a, x.r, x.set, x.prs))
def GRec (x : RecD) : Prop := W64 x.k ∧ W64 x.p ∧ W64 x.s ∧ W64 x.a ∧ W64 x.r ∧ (∀ y ∈ x.set, W64 y) ∧ ∀ y ∈ x.prs, GPair y
theorem open_90 : Opens Try.prog 90 kRec GRec :=
  Opens.iso (Opens.struct Try.underlying90 (by kernel_rfl) (OpensF.cons (Opens.int Try.underlying3) rfl (by kernel_rfl) rfl (OpensF.cons (Opens.int Try.underlying3) rfl (by kernel_rfl) rfl (OpensF.cons (Opens.int Try.underlying3) rfl (by kernel_rfl) rfl (OpensF.cons (Opens.int Try.underlying3) rfl (by kernel_rfl) rfl (OpensF.cons (Opens.int Try.underlying3) rfl (by kernel_rfl) rfl (OpensF.cons open_24 rfl (by kernel_rfl) rfl (OpensF.one open_43 rfl (by kernel_rfl))))))))) _ (fun p => ⟨p.1, p.2.1, p.2.2.1, p.2.2.2.1, p.2.2.2.2.1, p.2.2.2.2.2.1, p.2.2.2.2.2.2⟩) (fun _ => rfl)
theorem open_40 : Opens Try.prog 40 (Kd.slice 90 kRec) (fun xs => ∀ x ∈ xs, GRec x) := Opens.slice 90 Try.underlying40 (by kernel_rfl) open_90
end Go.Proofs.Ytbnhhlahbhjogaa.T
namespace Go.Proofs.Ytbnhhlahbhjogaa.K
open Go.RowKit Go.Proofs.YtbnhhlahbhjogaaW.PrintWords Go.Proofs.YtbnhhlahbhjogaaW.PrintLast Go.Proofs.YtbnhhlahbhjogaaW.PrintMore Go.Proofs.Ytbnhhlahbhjogaa.U Go.Proofs.Ytbnhhlahbhjogaa.T
/-- A letter's cells. -/
def rawL (x : LetD) (sv pv : Value) : List Value := [.int .i64 x.fr, .int .i64 x.dst, .int .i64 x.m.k, .int .i64 x.m.s, .int .i64 x.m.a, .int .i64 x.m.p, .int .i64 x.m.q, .int .i64 x.m.n, .int .i64 x.m.e, .int .i64 x.m.r, sv, pv]
/-- A letter's rows, where they stand. -/
structure MsgC (w : World) (m : MsgD) (A1 A2 : Option Addr) (c1 c2 : Nat) : Prop where
  s : Kd.C kI w A1 m.set.length m.set
  p : Kd.C kPair w A2 m.prs.length m.prs
  ls : m.set.length ≤ c1
  lp : m.prs.length ≤ c2
theorem MsgC.below {w w' : World} {m : MsgD} {A1 A2 : Option Addr} {c1 c2 : Nat} (h : MsgC w m A1 A2 c1 c2) (hb : Below w.heap.size w w') : MsgC w' m A1 A2 c1 c2 := ⟨Kd.C_below h.s hb, Kd.C_below h.p hb, h.ls, h.lp⟩
theorem kLet_open {w : World} {x : LetD} {cs : List Value} (h : kLet.K w x cs) : ∃ A1 A2 c1 c2, cs = rawL x (.slice A1 x.m.set.length c1) (.slice A2 x.m.prs.length c2) ∧ MsgC w x.m A1 A2 c1 c2 := by
  obtain ⟨_, _, rfl, rfl, ⟨_, _, rfl, rfl, ⟨_, _, rfl, rfl, ⟨_, _, rfl, rfl, ⟨_, _, rfl, rfl, ⟨_, _, rfl, rfl, ⟨_, _, rfl, rfl, ⟨_, _, rfl, rfl, ⟨_, _, rfl, rfl, ⟨_, _, rfl, rfl, ⟨_, _, rfl, ⟨A1, c1, rfl, hl1, h1⟩, ⟨A2, c2, rfl, hl2, h2⟩⟩⟩⟩⟩⟩⟩⟩⟩⟩⟩⟩ := h
  exact ⟨A1, A2, c1, c2, rfl, h1, h2, hl1, hl2⟩
theorem kLet_mk {w : World} {x : LetD} {A1 A2 : Option Addr} {c1 c2 : Nat} (h : MsgC w x.m A1 A2 c1 c2) : kLet.K w x (rawL x (.slice A1 x.m.set.length c1) (.slice A2 x.m.prs.length c2)) :=
  ⟨[_], _, rfl, rfl, ⟨[_], _, rfl, rfl, ⟨[_], _, rfl, rfl, ⟨[_], _, rfl, rfl, ⟨[_], _, rfl, rfl, ⟨[_], _, rfl, rfl, ⟨[_], _, rfl, rfl, ⟨[_], _, rfl, rfl, ⟨[_], _, rfl, rfl, ⟨[_], _, rfl, rfl, ⟨[_], _, rfl, ⟨A1, c1, rfl, h.ls, h.s⟩, ⟨A2, c2, rfl, h.lp, h.p⟩⟩⟩⟩⟩⟩⟩⟩⟩⟩⟩⟩
theorem kLet_openM {w : World} {base : Nat} {ok : Nat → Prop} {x : LetD} {cs : List Value} (h : kLet.M w base ok x cs) : ∃ sv pv, cs = rawL x sv pv ∧ Kd.R kI 3 w base ok sv x.m.set ∧ Kd.R kPair 113 w base ok pv x.m.prs := by
  obtain ⟨_, _, rfl, rfl, ⟨_, _, rfl, rfl, ⟨_, _, rfl, rfl, ⟨_, _, rfl, rfl, ⟨_, _, rfl, rfl, ⟨_, _, rfl, rfl, ⟨_, _, rfl, rfl, ⟨_, _, rfl, rfl, ⟨_, _, rfl, rfl, ⟨_, _, rfl, rfl, ⟨_, _, rfl, ⟨sv, rfl, h1⟩, ⟨pv, rfl, h2⟩⟩⟩⟩⟩⟩⟩⟩⟩⟩⟩⟩ := h
  exact ⟨sv, pv, rfl, h1, h2⟩
theorem kLet_mkM {w : World} {base : Nat} {ok : Nat → Prop} {x : LetD} {sv pv : Value} (h1 : Kd.R kI 3 w base ok sv x.m.set) (h2 : Kd.R kPair 113 w base ok pv x.m.prs) : kLet.M w base ok x (rawL x sv pv) :=
  ⟨[_], _, rfl, rfl, ⟨[_], _, rfl, rfl, ⟨[_], _, rfl, rfl, ⟨[_], _, rfl, rfl, ⟨[_], _, rfl, rfl, ⟨[_], _, rfl, rfl, ⟨[_], _, rfl, rfl, ⟨[_], _, rfl, rfl, ⟨[_], _, rfl, rfl, ⟨[_], _, rfl, rfl, ⟨[_], _, rfl, ⟨sv, rfl, h1⟩, ⟨pv, rfl, h2⟩⟩⟩⟩⟩⟩⟩⟩⟩⟩⟩⟩
/-- A record's cells. -/
def rawR (x : RecD) (sv pv : Value) : List Value := [.int .i64 x.k, .int .i64 x.p, .int .i64 x.s, .int .i64 x.a, .int .i64 x.r, sv, pv]
/-- A record as a value. -/
def recV (x : RecD) (sv pv : Value) : Value := .agg #[.int .i64 x.k, .int .i64 x.p, .int .i64 x.s, .int .i64 x.a, .int .i64 x.r, sv, pv]
/-- A record's rows, where they stand. -/
structure RecC (w : World) (m : RecD) (A1 A2 : Option Addr) (c1 c2 : Nat) : Prop where
  s : Kd.C kI w A1 m.set.length m.set
  p : Kd.C kPair w A2 m.prs.length m.prs
  ls : m.set.length ≤ c1
  lp : m.prs.length ≤ c2
theorem RecC.below {w w' : World} {m : RecD} {A1 A2 : Option Addr} {c1 c2 : Nat} (h : RecC w m A1 A2 c1 c2) (hb : Below w.heap.size w w') : RecC w' m A1 A2 c1 c2 := ⟨Kd.C_below h.s hb, Kd.C_below h.p hb, h.ls, h.lp⟩
theorem kRec_open {w : World} {x : RecD} {cs : List Value} (h : kRec.K w x cs) : ∃ A1 A2 c1 c2, cs = rawR x (.slice A1 x.set.length c1) (.slice A2 x.prs.length c2) ∧ RecC w x A1 A2 c1 c2 := by
  obtain ⟨_, _, rfl, rfl, ⟨_, _, rfl, rfl, ⟨_, _, rfl, rfl, ⟨_, _, rfl, rfl, ⟨_, _, rfl, rfl, ⟨_, _, rfl, ⟨A1, c1, rfl, hl1, h1⟩, ⟨A2, c2, rfl, hl2, h2⟩⟩⟩⟩⟩⟩⟩ := h
  exact ⟨A1, A2, c1, c2, rfl, h1, h2, hl1, hl2⟩
theorem kRec_mk {w : World} {x : RecD} {A1 A2 : Option Addr} {c1 c2 : Nat} (h : RecC w x A1 A2 c1 c2) : kRec.K w x (rawR x (.slice A1 x.set.length c1) (.slice A2 x.prs.length c2)) :=
  ⟨[_], _, rfl, rfl, ⟨[_], _, rfl, rfl, ⟨[_], _, rfl, rfl, ⟨[_], _, rfl, rfl, ⟨[_], _, rfl, rfl, ⟨[_], _, rfl, ⟨A1, c1, rfl, h.ls, h.s⟩, ⟨A2, c2, rfl, h.lp, h.p⟩⟩⟩⟩⟩⟩⟩
theorem kRec_openM {w : World} {base : Nat} {ok : Nat → Prop} {x : RecD} {cs : List Value} (h : kRec.M w base ok x cs) : ∃ sv pv, cs = rawR x sv pv ∧ Kd.R kI 3 w base ok sv x.set ∧ Kd.R kPair 113 w base ok pv x.prs := by
  obtain ⟨_, _, rfl, rfl, ⟨_, _, rfl, rfl, ⟨_, _, rfl, rfl, ⟨_, _, rfl, rfl, ⟨_, _, rfl, rfl, ⟨_, _, rfl, ⟨sv, rfl, h1⟩, ⟨pv, rfl, h2⟩⟩⟩⟩⟩⟩⟩ := h
  exact ⟨sv, pv, rfl, h1, h2⟩
theorem kRec_mkM {w : World} {base : Nat} {ok : Nat → Prop} {x : RecD} {sv pv : Value} (h1 : Kd.R kI 3 w base ok sv x.set) (h2 : Kd.R kPair 113 w base ok pv x.prs) : kRec.M w base ok x (rawR x sv pv) :=
  ⟨[_], _, rfl, rfl, ⟨[_], _, rfl, rfl, ⟨[_], _, rfl, rfl, ⟨[_], _, rfl, rfl, ⟨[_], _, rfl, rfl, ⟨[_], _, rfl, ⟨sv, rfl, h1⟩, ⟨pv, rfl, h2⟩⟩⟩⟩⟩⟩⟩
/-- The cells of record k of a row. -/
theorem at_rec {w : World} {A : Option Addr} {n : Nat} {xs : List RecD} (h : Kd.C kRec w A n xs) (k : Nat) (hk : k < xs.length) (z : RecD) : ∃ ad A1 A2 c1 c2, A = some ad ∧ RecC w xs[k] A1 A2 c1 c2 ∧ ∀ j u, (rawR xs[k] (.slice A1 xs[k].set.length c1) (.slice A2 xs[k].prs.length c2))[j]? = some u → w.cell? (ad.add (k * 7 + j)) = some u := by
  obtain ⟨ad, c, e, hl, hK, hc⟩ := Kd.C_get h z (k : Int) (by omega) (by have := Kd.C_len h; omega)
  have e2 : xs.getD (k : Int).toNat z = xs[k] := by rw [Int.toNat_natCast]; simp [List.getD_eq_getElem?_getD, hk]
  rw [e2] at hK
  obtain ⟨A1, A2, c1, c2, rfl, hC⟩ := kRec_open hK
  exact ⟨ad, A1, A2, c1, c2, e, hC, fun j u hj => by have := hc j u hj; rw [Int.toNat_natCast] at this; exact this⟩
/-- The cells of record x at address p, as a walk reckons them. -/
structure RecAt (w : World) (p : Addr) (x : RecD) (sv pv : Value) : Prop where
  c0 : w.cell? p = some (.int .i64 x.k)
  c1 : w.cell? ⟨p.block, p.off + 1, none⟩ = some (.int .i64 x.p)
  c2 : w.cell? ⟨p.block, p.off + 2, none⟩ = some (.int .i64 x.s)
  c3 : w.cell? ⟨p.block, p.off + 3, none⟩ = some (.int .i64 x.a)
  c4 : w.cell? ⟨p.block, p.off + 4, none⟩ = some (.int .i64 x.r)
  c5 : w.cell? ⟨p.block, p.off + 5, none⟩ = some sv
  c6 : w.cell? ⟨p.block, p.off + 6, none⟩ = some pv
theorem RecAt.of {w : World} {ad : Addr} {n : Nat} {x : RecD} {sv pv : Value} (h : ∀ i u, (rawR x sv pv)[i]? = some u → w.cell? (ad.add (n + i)) = some u) : RecAt w (ad.add n) x sv pv := by
  have key : ∀ i u, (rawR x sv pv)[i + 1]? = some u → w.cell? ⟨(ad.add n).block, (ad.add n).off + (i + 1), none⟩ = some u := by
    intro i u hu
    have := h (i + 1) u hu
    rw [show n + (i + 1) = n + i + 1 from by omega] at this
    by_cases h0 : i = 0
    · subst h0
      rw [← add_add'] at this
      exact this
    · rw [← this]
      congr 1
      simp [Addr.add]
      split
      · simp_all
      · simp; omega
  exact ⟨h 0 _ rfl, key 0 _ rfl, key 1 _ rfl, key 2 _ rfl, key 3 _ rfl, key 4 _ rfl, key 5 _ rfl⟩
theorem RecAt.below {w w' : World} {p : Addr} {x : RecD} {sv pv : Value} (h : RecAt w p x sv pv) (hb : Below w.heap.size w w') : RecAt w' p x sv pv := by
  have key : ∀ a v, w.cell? a = some v → w'.cell? a = some v := fun a v hc => (hb.cell (World.block_lt_of_cell? w a hc)).trans hc
  exact ⟨key _ _ h.c0, key _ _ h.c1, key _ _ h.c2, key _ _ h.c3, key _ _ h.c4, key _ _ h.c5, key _ _ h.c6⟩
def zeroRec : RecD := ⟨0, 0, 0, 0, 0, [], []⟩

theorem kLet_sz : kLet.sz = 12 := rfl
theorem info_let : (Try.prog.info? 51).map (fun i => (i.zero, i.size, i.bytes)) = some (some (.agg #[.int .i64 0, .int .i64 0, .int .i64 0, .int .i64 0, .int .i64 0, .int .i64 0, .int .i64 0, .int .i64 0, .int .i64 0, .int .i64 0, .slice none 0 0, .slice none 0 0]), 12, 128) := by kernel_rfl
/-- A letter read in a row. -/
theorem at_let {w : World} {A : Option Addr} {n : Nat} {xs : List LetD} (h : Kd.C kLet w A n xs) (k : Nat) (hk : k < xs.length) : ∃ ad A1 A2 c1 c2, A = some ad ∧ MsgC w (xs[k]).m A1 A2 c1 c2 ∧ ∀ i u, (rawL xs[k] (.slice A1 (xs[k]).m.set.length c1) (.slice A2 (xs[k]).m.prs.length c2))[i]? = some u → w.cell? (ad.add (k * 12 + i)) = some u := by
  obtain ⟨h1, h2, h3⟩ := h
  obtain ⟨ad, e, hc⟩ := h3 (by omega)
  obtain ⟨cs, hl, hK, hcell⟩ := hc k xs[k] (List.getElem?_eq_getElem hk)
  obtain ⟨A1, A2, c1, c2, rfl, hm⟩ := kLet_open hK
  exact ⟨ad, A1, A2, c1, c2, e, hm, hcell⟩
def nilMsg : MsgD := ⟨0, 0, 0, 0, 0, 0, 0, 0, [], []⟩
def zeroLet : LetD := ⟨0, 0, nilMsg⟩
theorem own_empty {α : Type} {d : Kd α} {e : TypeId} {w : World} : Own d e (w.alloc (.cells #[] e)) w.heap.size (.slice (some ⟨w.heap.size, 0, none⟩) 0 0) [] :=
  ⟨fun _ _ => trivial, [], ⟨by simp, .inr ⟨w.heap.size, 0, #[], rfl, Nat.le_refl _, alloc_at w _, Nat.le_refl _, by unfold maxLen; omega, by simp, by simp⟩⟩, Reps.none _ _⟩
set_option maxHeartbeats 800000 in
theorem cloneP (A0 : Option Addr) (c0 : Nat) (l0 : List PairD) (w : World) (hr0 : Kd.C kPair w A0 l0.length l0) (hl : l0.length ≤ 100000000) :
    Calls Try.prog 66 #[.slice A0 l0.length c0] w fun e w' => ∃ v, e = .returned v ∧ Own kPair 113 w' w.heap.size v l0 ∧ Below w.heap.size w w' := by
  have HR0 := Aside0.mk hr0
  have heq : ∀ w A n c, (binOp .eql 43 (.slice A n c) (.slice none 0 0)).run Try.prog w = .ok (.bool A.isNone) w := fun w A n c => Lib.run_eql_slice_nil w 43 113 A n c 0 0 Try.underlying43
  cases A0 with
  | none =>
    have h0 : l0 = [] := by
      rcases Nat.eq_zero_or_pos l0.length with h | h
      · exact List.eq_nil_of_length_eq_zero h
      · obtain ⟨ad, e, _⟩ := hr0.2.2 h
        cases e
    subst h0
    go_enter Try.func66, Try.ntmps66
    go_wp2_with fail
    go_ret
    exact ⟨_, rfl, Own.nil _ _ _ _, Below.refl _ _⟩
  | some ad =>
    clear hr0
    have hba : Below w.heap.size w (w.alloc (.cells #[] 113)) := (Below.refl _ _).alloc (Nat.le_refl _) _
    go_enter Try.func66, Try.ntmps66
    go_wp2_with (at_builtin; refine wpList_append_runs rfl _ _ _ _ rfl _ _ rfl rfl (append_own_runs Try.prog flat_pair 43 _ _ 32 Try.underlying43 info_pair rfl (by decide) (own_empty (d := kPair) (e := 113) (w := w)) (some ad) l0.length c0 rfl (Kd.C_below HR0.out hba) hba.size (by simp; omega) (by simp; omega)) ?_; rintro v2 w2 ⟨hv2, hg2⟩; have HV2 := Aside0.mk hv2; have HG2 := Aside0.mk hg2; clear hv2 hg2)
    go_ret
    exact ⟨_, rfl, HV2.out, hba.grown HG2.out hba.size (fun k hk => by cases hk; exact Nat.le_refl _)⟩
set_option maxHeartbeats 800000 in
theorem cloneI (A0 : Option Addr) (c0 : Nat) (l0 : List Int) (w : World) (hr0 : Kd.C kI w A0 l0.length l0) (hl : l0.length ≤ 100000000) :
    Calls Try.prog 68 #[.slice A0 l0.length c0] w fun e w' => ∃ v, e = .returned v ∧ Own kI 3 w' w.heap.size v l0 ∧ Below w.heap.size w w' := by
  have HR0 := Aside0.mk hr0
  have heq : ∀ w A n c, (binOp .eql 24 (.slice A n c) (.slice none 0 0)).run Try.prog w = .ok (.bool A.isNone) w := fun w A n c => Lib.run_eql_slice_nil w 24 3 A n c 0 0 Try.underlying24
  cases A0 with
  | none =>
    have h0 : l0 = [] := by
      rcases Nat.eq_zero_or_pos l0.length with h | h
      · exact List.eq_nil_of_length_eq_zero h
      · obtain ⟨ad, e, _⟩ := hr0.2.2 h
        cases e
    subst h0
    go_enter Try.func68, Try.ntmps68
    go_wp2_with fail
    go_ret
    exact ⟨_, rfl, Own.nil _ _ _ _, Below.refl _ _⟩
  | some ad =>
    clear hr0
    have hba : Below w.heap.size w (w.alloc (.cells #[] 3)) := (Below.refl _ _).alloc (Nat.le_refl _) _
    go_enter Try.func68, Try.ntmps68
    go_wp2_with (at_builtin; refine wpList_append_runs rfl _ _ _ _ rfl _ _ rfl rfl (append_own_runs Try.prog (flat_int .i64) 24 _ _ 8 Try.underlying24 info_int rfl (by decide) (own_empty (d := kI) (e := 3) (w := w)) (some ad) l0.length c0 rfl (Kd.C_below HR0.out hba) hba.size (by simp; omega) (by simp; omega)) ?_; rintro v2 w2 ⟨hv2, hg2⟩; have HV2 := Aside0.mk hv2; have HG2 := Aside0.mk hg2; clear hv2 hg2)
    go_ret
    exact ⟨_, rfl, HV2.out, hba.grown HG2.out hba.size (fun k hk => by cases hk; exact Nat.le_refl _)⟩
/-- A letter as a value. -/
def letV (x : LetD) (sv pv : Value) : Value := .agg #[.int .i64 x.fr, .int .i64 x.dst, .int .i64 x.m.k, .int .i64 x.m.s, .int .i64 x.m.a, .int .i64 x.m.p, .int .i64 x.m.q, .int .i64 x.m.n, .int .i64 x.m.e, .int .i64 x.m.r, sv, pv]
def zeroL : List Value := [.int .i64 0, .int .i64 0, .int .i64 0, .int .i64 0, .int .i64 0, .int .i64 0, .int .i64 0, .int .i64 0, .int .i64 0, .int .i64 0, .slice none 0 0, .slice none 0 0]
/-- A letter's cells are written. -/
def wrote12 (w : World) (g : Nat) (a0 a1 a2 a3 a4 a5 a6 a7 a8 a9 a10 a11 : Value) : World := ((((((((((((w.setCell ⟨g, 0, none⟩ a0).setCell ⟨g, 1, none⟩ a1).setCell ⟨g, 2, none⟩ a2).setCell ⟨g, 3, none⟩ a3).setCell ⟨g, 4, none⟩ a4).setCell ⟨g, 5, none⟩ a5).setCell ⟨g, 6, none⟩ a6).setCell ⟨g, 7, none⟩ a7).setCell ⟨g, 8, none⟩ a8).setCell ⟨g, 9, none⟩ a9).setCell ⟨g, 10, none⟩ a10).setCell ⟨g, 11, none⟩ a11)
theorem set12 {w : World} {g : Nat} {x0 x1 x2 x3 x4 x5 x6 x7 x8 x9 x10 x11 : Value} {t : TypeId} (h : w.heap[g]? = some (.cells ([x0, x1, x2, x3, x4, x5, x6, x7, x8, x9, x10, x11] : List Value).toArray t (0, 0))) (a0 a1 a2 a3 a4 a5 a6 a7 a8 a9 a10 a11 : Value) : (wrote12 w g a0 a1 a2 a3 a4 a5 a6 a7 a8 a9 a10 a11).heap[g]? = some (.cells ([a0, a1, a2, a3, a4, a5, a6, a7, a8, a9, a10, a11] : List Value).toArray t (0, 0)) :=
  (setCell_blk (setCell_blk (setCell_blk (setCell_blk (setCell_blk (setCell_blk (setCell_blk (setCell_blk (setCell_blk (setCell_blk (setCell_blk (setCell_blk h a0) a1) a2) a3) a4) a5) a6) a7) a8) a9) a10) a11)
theorem set12_ch (w : World) (g : Nat) (a0 a1 a2 a3 a4 a5 a6 a7 a8 a9 a10 a11 : Value) : Ch w (wrote12 w g a0 a1 a2 a3 a4 a5 a6 a7 a8 a9 a10 a11) (fun k => k = g) := (((((((((((((Ch.refl w (fun k => k = g)).setCell ⟨g, 0, none⟩ a0 rfl).setCell ⟨g, 1, none⟩ a1 rfl).setCell ⟨g, 2, none⟩ a2 rfl).setCell ⟨g, 3, none⟩ a3 rfl).setCell ⟨g, 4, none⟩ a4 rfl).setCell ⟨g, 5, none⟩ a5 rfl).setCell ⟨g, 6, none⟩ a6 rfl).setCell ⟨g, 7, none⟩ a7 rfl).setCell ⟨g, 8, none⟩ a8 rfl).setCell ⟨g, 9, none⟩ a9 rfl).setCell ⟨g, 10, none⟩ a10 rfl).setCell ⟨g, 11, none⟩ a11 rfl)
def HeldN (w w' : World) : Prop := Below w.heap.size w w'
theorem HeldN.then_ {w w1 w2 : World} (h : HeldN w w1) (k : Below w1.heap.size w1 w2) : HeldN w w2 := below_then h h.size k
theorem below_drew (w : World) : Below w.heap.size w w.drew := ⟨rfl, rfl, rfl, Nat.le_refl _, fun _ _ => rfl⟩
end Go.Proofs.Ytbnhhlahbhjogaa.K
