/- A configuration's own copy. WRITTEN BY wip/gen_y17.py. -/
import Derived.Test.YtbnhhlahbhjogaaY13
set_option linter.unusedVariables false
set_option linter.unusedSimpArgs false
set_option maxRecDepth 100000
namespace Go.Proofs.Ytbnhhlahbhjogaa.K
open Go.RowKit Go.Proofs.YtbnhhlahbhjogaaW.PrintWords Go.Proofs.YtbnhhlahbhjogaaW.PrintLast Go.Proofs.YtbnhhlahbhjogaaW.PrintMore Go.Proofs.Ytbnhhlahbhjogaa.U Go.Proofs.Ytbnhhlahbhjogaa.T

/-- A slice's head. -/
structure Hd where
  A : Option Addr
  n : Nat
  c : Nat
def hdV (x : Hd) : Value := .slice x.A x.n x.c
def kHd : Kd Hd := Kd.scalar hdV (fun _ => rfl)
theorem flat_hd : Flat kHd := flat_scalar _ _
theorem flat_insM : Flat kIns := ((flat_int _).pair ((flat_int _).pair flat_string)).iso _
theorem info_insM : (Try.prog.info? 115).map (fun i => (i.zero, i.size, i.bytes)) = some (some (.agg #[.int .i64 0, .int .i64 0, .string ⟨#[]⟩]), 3, 32) := by kernel_rfl
theorem info_hd : (Try.prog.info? 43).map (fun i => (i.zero, i.size, i.bytes)) = some (some (.slice none 0 0), 1, 24) := by kernel_rfl
theorem list_of {α : Type} (P : Nat → α → Prop) (n : Nat) (h : ∀ k, k < n → ∃ x, P k x) : ∃ l : List α, l.length = n ∧ ∀ k (hk : k < l.length), P k l[k] := by
  induction n with
  | zero => exact ⟨[], rfl, fun k hk => absurd hk (Nat.not_lt_zero k)⟩
  | succ n ih =>
    obtain ⟨l, hl, hP⟩ := ih (fun k hk => h k (by omega))
    obtain ⟨x, hx⟩ := h n (by omega)
    refine ⟨l ++ [x], by simp [hl], fun k hk => ?_⟩
    by_cases hlt : k < l.length
    · rw [List.getElem_append_left hlt]
      exact hP k hlt
    · have e : k = n := by
        rw [List.length_append, List.length_singleton] at hk
        omega
      subst e
      rw [List.getElem_append_right (by omega)]
      simpa using hx
theorem rows_hd {w : World} {A : Option Addr} {n : Nat} {l : List (List PairD)} (h : Kd.C kRows w A n l) : ∃ hs : List Hd, hs.length = l.length ∧ Kd.C kHd w A hs.length hs ∧ ∀ k (h1 : k < hs.length) (h2 : k < l.length), hs[k].n = l[k].length ∧ kPair.C w hs[k].A l[k].length l[k] := by
  obtain ⟨hs, hl, hP⟩ := list_of (fun k (x : Hd) => ∃ h2 : k < l.length, (∃ ad, A = some ad ∧ w.cell? (ad.add k) = some (hdV x)) ∧ x.n = l[k].length ∧ kPair.C w x.A l[k].length l[k]) l.length (fun k hk => by
    obtain ⟨ad, A1, c1, ea, hc, hle, hC⟩ := at_rows h k hk
    exact ⟨⟨A1, l[k].length, c1⟩, hk, ⟨ad, ea, hc⟩, rfl, hC⟩)
  have hn := Kd.C_len h
  have hm := Kd.C_max h
  refine ⟨hs, hl, ⟨rfl, by omega, fun h0 => ?_⟩, fun k h1 h2 => ⟨(hP k h1).2.2.1, (hP k h1).2.2.2⟩⟩
  obtain ⟨_, ⟨ad, ea, _⟩, _⟩ := hP 0 h0
  refine ⟨ad, ea, fun j x hj => ?_⟩
  obtain ⟨hlt, rfl⟩ := List.getElem?_eq_some_iff.1 hj
  obtain ⟨_, ⟨ad', ea', hc⟩, _⟩ := hP j hlt
  rw [ea] at ea'
  injection ea' with ea'
  subst ea'
  refine ⟨[hdV hs[j]], rfl, rfl, fun i u hu => ?_⟩
  have hi : i = 0 ∧ u = hdV hs[j] := by
    cases i with
    | zero => exact ⟨rfl, by simpa using hu.symm⟩
    | succ i => simp at hu
  obtain ⟨rfl, rfl⟩ := hi
  show w.cell? (ad.add (j * 1 + 0)) = _
  rw [Nat.mul_one, Nat.add_zero]
  exact hc
theorem rows_R {w : World} {base : Nat} {ok : Nat → Prop} {v : Value} {hs : List Hd} {l : List (List PairD)} (h : Own kHd 43 w base v hs) (hl : hs.length = l.length) (hok : ∀ i, v.ownBlock = some i → ok i) (hr : ∀ k (h1 : k < hs.length) (h2 : k < l.length), Kd.R kPair 113 w base (fun i => ok i ∧ some i ≠ v.ownBlock) (hdV hs[k]) l[k]) : Kd.R kRows 43 w base ok v l := by
  obtain ⟨_, inner, ho, hrp⟩ := h
  refine ⟨hok, inner, by rw [← hl]; exact ho, ⟨by rw [hrp.1, hl]; rfl, fun j p hj => ?_⟩⟩
  obtain ⟨hlt, rfl⟩ := List.getElem?_eq_some_iff.1 hj
  have hlh : j < hs.length := by omega
  have h1 := hrp.2 j _ (List.getElem?_eq_getElem hlh)
  exact ⟨hdV hs[j], h1, hr j hlh hlt⟩
set_option maxHeartbeats 800000 in
theorem cloneN (A0 : Option Addr) (c0 : Nat) (l0 : List InsD) (w : World) (hr0 : Kd.C kIns w A0 l0.length l0) (hl : l0.length ≤ 100000000) :
    Calls Try.prog 67 #[.slice A0 l0.length c0] w fun e w' => ∃ v, e = .returned v ∧ Own kIns 115 w' w.heap.size v l0 ∧ Below w.heap.size w w' := by
  have HR0 := Aside0.mk hr0
  have heq : ∀ w A n c, (binOp .eql 23 (.slice A n c) (.slice none 0 0)).run Try.prog w = .ok (.bool A.isNone) w := fun w A n c => Lib.run_eql_slice_nil w 23 115 A n c 0 0 Try.underlying23
  cases A0 with
  | none =>
    have h0 : l0 = [] := by
      rcases Nat.eq_zero_or_pos l0.length with h | h
      · exact List.eq_nil_of_length_eq_zero h
      · obtain ⟨ad, e, _⟩ := hr0.2.2 h
        cases e
    subst h0
    go_enter Try.func67, Try.ntmps67
    go_wp2_with fail
    go_ret
    exact ⟨_, rfl, Own.nil _ _ _ _, Below.refl _ _⟩
  | some ad =>
    clear hr0
    have hba : Below w.heap.size w (w.alloc (.cells #[] 115)) := (Below.refl _ _).alloc (Nat.le_refl _) _
    go_enter Try.func67, Try.ntmps67
    go_wp2_with (at_builtin; refine wpList_append_runs rfl _ _ _ _ rfl _ _ rfl rfl (append_own_runs Try.prog flat_insM 23 _ _ 32 Try.underlying23 info_insM rfl (by decide) (own_empty (d := kIns) (e := 115) (w := w)) (some ad) l0.length c0 rfl (Kd.C_below HR0.out hba) hba.size (by simp; omega) (by simp; omega)) ?_; rintro v2 w2 ⟨hv2, hg2⟩; have HV2 := Aside0.mk hv2; have HG2 := Aside0.mk hg2; clear hv2 hg2)
    go_ret
    exact ⟨_, rfl, HV2.out, hba.grown HG2.out hba.size (fun k hk => by cases hk; exact Nat.le_refl _)⟩
set_option maxHeartbeats 800000 in
theorem cloneR (A0 : Option Addr) (c0 : Nat) (l0 : List Hd) (w : World) (hr0 : Kd.C kHd w A0 l0.length l0) (hl : l0.length ≤ 100000000) :
    Calls Try.prog 65 #[.slice A0 l0.length c0] w fun e w' => ∃ v, e = .returned v ∧ Own kHd 43 w' w.heap.size v l0 ∧ Below w.heap.size w w' := by
  have HR0 := Aside0.mk hr0
  have heq : ∀ w A n c, (binOp .eql 22 (.slice A n c) (.slice none 0 0)).run Try.prog w = .ok (.bool A.isNone) w := fun w A n c => Lib.run_eql_slice_nil w 22 43 A n c 0 0 Try.underlying22
  cases A0 with
  | none =>
    have h0 : l0 = [] := by
      rcases Nat.eq_zero_or_pos l0.length with h | h
      · exact List.eq_nil_of_length_eq_zero h
      · obtain ⟨ad, e, _⟩ := hr0.2.2 h
        cases e
    subst h0
    go_enter Try.func65, Try.ntmps65
    go_wp2_with fail
    go_ret
    exact ⟨_, rfl, Own.nil _ _ _ _, Below.refl _ _⟩
  | some ad =>
    clear hr0
    have hba : Below w.heap.size w (w.alloc (.cells #[] 43)) := (Below.refl _ _).alloc (Nat.le_refl _) _
    go_enter Try.func65, Try.ntmps65
    go_wp2_with (at_builtin; refine wpList_append_runs rfl _ _ _ _ rfl _ _ rfl rfl (append_own_runs Try.prog flat_hd 22 _ _ 24 Try.underlying22 info_hd rfl (by decide) (own_empty (d := kHd) (e := 43) (w := w)) (some ad) l0.length c0 rfl (Kd.C_below HR0.out hba) hba.size (by simp; omega) (by simp; omega)) ?_; rintro v2 w2 ⟨hv2, hg2⟩; have HV2 := Aside0.mk hv2; have HG2 := Aside0.mk hg2; clear hv2 hg2)
    go_ret
    exact ⟨_, rfl, HV2.out, hba.grown HG2.out hba.size (fun k hk => by cases hk; exact Nat.le_refl _)⟩

theorem hd_put {W : World} {base : Nat} {g n cap : Nat} {xs : List Hd} (h : Own kHd 43 W base (.slice (some ⟨g, 0, none⟩) n cap) xs) (k : Nat) (x : Hd) : Own kHd 43 (W.setCell ⟨g, k, none⟩ (hdV x)) base (.slice (some ⟨g, 0, none⟩) n cap) (xs.set k x) := by
  have := (Kd.R_putg h (k : Int) x).1
  rw [Int.toNat_natCast] at this
  exact this
theorem hd_at {W : World} {base : Nat} {g n cap : Nat} {xs : List Hd} (h : Own kHd 43 W base (.slice (some ⟨g, 0, none⟩) n cap) xs) (k : Nat) (hk : k < xs.length) : W.cell? ⟨g, k, none⟩ = some (hdV xs[k]) ∧ W.frozen? ⟨g, k, none⟩ = false := by
  obtain ⟨hn, _, _⟩ := Kd.R_reads' h
  obtain ⟨c, hl, hM, hc, hf⟩ := Kd.R_elem h ⟨none, 0, 0⟩ (k : Int) (by omega) (by omega)
  rw [Int.toNat_natCast] at hM hc hf
  have e : xs.getD k ⟨none, 0, 0⟩ = xs[k] := by simp [List.getD_eq_getElem?_getD, hk]
  rw [e] at hM
  have hM' : c = [hdV xs[k]] := hM
  subst hM'
  have h0 := hc 0 _ rfl
  have f0 := hf 0
  rw [show k * kHd.sz + 0 = k from Nat.mul_one k] at h0 f0
  exact ⟨h0, f0⟩
end Go.Proofs.Ytbnhhlahbhjogaa.K
