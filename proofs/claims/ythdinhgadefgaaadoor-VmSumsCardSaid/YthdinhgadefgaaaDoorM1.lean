/- The machine: what it holds. -/
import Derived.Test.YthdinhgadefgaaaDoorV3
import Derived.Deep.LoopGhost
import Derived.Deep.RegionHeld3
set_option linter.unusedVariables false
set_option linter.unusedSimpArgs false
set_option maxRecDepth 100000
namespace Go.Proofs.YthdinhgadefgaaaDoor.K
open Go.RowKit Go.Proofs.YthdinhgadefgaaaDoorW.PrintWords Go.Proofs.YthdinhgadefgaaaDoorW.PrintLast Go.Proofs.YthdinhgadefgaaaDoorW.PrintMore Go.Proofs.YthdinhgadefgaaaDoor.U Go.Proofs.YthdinhgadefgaaaDoor.T Go.Proofs.YthdinhgadefgaaaDoor.V

def kValM : Kd ValD := Kd.iso (Kd.pair Kd.bool (Kd.pair (Kd.int .i64) Kd.string)) (fun x => (x.text, x.int, x.bytes))
def cellV (x : ValD) : List Value := [.bool x.text, .int .i64 x.int, .string x.bytes]
theorem kValM_open {w : World} {x : ValD} {cs : List Value} (h : kValM.K w x cs) : cs = cellV x := by
  obtain ⟨_, _, rfl, rfl, ⟨_, _, rfl, rfl, rfl⟩⟩ := h
  rfl
theorem kValM_mk (w : World) (x : ValD) : kValM.K w x (cellV x) := ⟨_, _, rfl, rfl, ⟨_, _, rfl, rfl, rfl⟩⟩
theorem flat_valM : Flat kValM := (flat_bool.pair ((flat_int _).pair flat_string)).iso _
theorem at_val {w : World} {A : Option Addr} {n : Nat} {xs : List ValD} (h : Kd.C kValM w A n xs) (k : Nat) (hk : k < xs.length) : ∃ ad, A = some ad ∧ w.cell? (ad.add (k * 3)) = some (.bool xs[k].text) ∧ w.cell? ⟨(ad.add (k * 3)).block, (ad.add (k * 3)).off + 1, none⟩ = some (.int .i64 xs[k].int) ∧ w.cell? ⟨(ad.add (k * 3)).block, (ad.add (k * 3)).off + 2, none⟩ = some (.string xs[k].bytes) := by
  obtain ⟨ad, c, e, hl, hK, hc⟩ := Kd.C_get h ⟨false, 0, ByteArray.empty⟩ (k : Int) (by omega) (by have := Kd.C_len h; omega)
  obtain rfl := kValM_open hK
  have e2 : xs.getD (k : Int).toNat ⟨false, 0, ByteArray.empty⟩ = xs[k] := by rw [Int.toNat_natCast]; simp [List.getD_eq_getElem?_getD, hk]
  rw [e2] at hc
  have h0 := hc 0 _ rfl
  have h1 := hc 1 _ rfl
  have h2 := hc 2 _ rfl
  rw [Int.toNat_natCast] at h0 h1 h2
  exact ⟨ad, e, h0, (by rw [← add_add'] at h1; exact h1), (by rw [← add_add'] at h2; exact h2)⟩
/-- A row of its own, shorter. -/
theorem own_take {α : Type} {d : Kd α} {e : TypeId} {w : World} {base : Nat} {A : Option Addr} {n c : Nat} {xs : List α} (h : Own d e w base (.slice A n c) xs) (k : Nat) (hk : k ≤ n) : Own d e w base (.slice A k c) (xs.take k) := by
  obtain ⟨_, inner, ⟨hl, ho⟩, hr⟩ := h
  have hkk : k ≤ xs.length := by
    rcases ho with ⟨e1, e2⟩ | ⟨g, cap, cur, e1, _⟩
    · injection e1 with _ e3 _; omega
    · injection e1 with _ e3 _; omega
  have hll : (inner.take (k * d.sz)).length = (xs.take k).length * d.sz := by
    rw [List.length_take, List.length_take, Nat.min_eq_left hkk, hl, Nat.min_eq_left (Nat.mul_le_mul_right _ hkk)]
  refine ⟨fun _ _ => trivial, inner.take (k * d.sz), ⟨hll, ?_⟩, ⟨hll, fun j p hj => ?_⟩⟩
  · rw [List.length_take, Nat.min_eq_left hkk]
    rcases ho with ⟨e1, e2⟩ | ⟨g, cap, cur, e1, h1, h2, h3, h4, h5, h6⟩
    · injection e1 with a1 a2 a3
      subst a1 a2 a3
      obtain rfl : k = 0 := by omega
      exact .inl ⟨rfl, rfl⟩
    · injection e1 with a1 a2 a3
      subst a1 a2 a3
      refine .inr ⟨g, _, cur, rfl, h1, h2, by omega, h4, h5, ?_⟩
      rw [← h6, List.take_take, Nat.min_eq_left (Nat.mul_le_mul_right _ hk)]
  · have hj2 : j < k := by
      have := (List.getElem?_eq_some_iff.1 hj).1
      rw [List.length_take] at this
      omega
    rw [List.getElem?_take_of_lt hj2] at hj
    have := hr.2 j p hj
    rw [List.drop_take, List.take_take, Nat.min_eq_left]
    · cases A <;> exact this
    · rw [← Nat.sub_mul]
      exact Nat.le_mul_of_pos_left _ (by omega)
/-- Part of a row that is read. -/
theorem C_cut {α : Type} {d : Kd α} {w : World} {ad : Addr} {n : Nat} {xs : List α} (h : d.C w (some ad) n xs) (p k : Nat) (hk : p + k ≤ n) : d.C w (some (ad.add (p * d.sz))) k ((xs.drop p).take k) := by
  obtain ⟨h1, h2, h3⟩ := h
  refine ⟨?_, by omega, fun hk0 => ⟨_, rfl, fun j x hj => ?_⟩⟩
  · rw [List.length_take, List.length_drop]; omega
  · obtain ⟨ad', e', hc⟩ := h3 (by omega)
    injection e' with e'
    subst e'
    have hj2 : j < k := by
      have := (List.getElem?_eq_some_iff.1 hj).1
      rw [List.length_take] at this
      omega
    rw [List.getElem?_take_of_lt hj2, List.getElem?_drop] at hj
    obtain ⟨c, hl, hK, hcc⟩ := hc _ _ hj
    refine ⟨c, hl, hK, fun i u hu => ?_⟩
    rw [add_add', ← Nat.add_assoc, ← Nat.add_mul]
    exact hcc i u hu
/-- What an operation needs. -/
def kindB (op : Int) : ByteArray :=
  if op = 3 ∨ op = 4 ∨ op = 22 then ⟨#[101]⟩ else if op = 5 ∨ op = 12 then ⟨#[101, 101]⟩ else if op = 8 ∨ op = 9 ∨ op = 10 ∨ op = 11 then ⟨#[110, 110]⟩
  else if op = 13 ∨ op = 23 then ⟨#[98, 98]⟩ else if op = 14 ∨ op = 18 then ⟨#[98]⟩ else if op = 15 then ⟨#[98, 110]⟩ else if op = 16 then ⟨#[98, 110, 110]⟩
  else if op = 17 ∨ op = 20 then ⟨#[110]⟩ else ⟨#[]⟩
theorem kinds (op : Int) (h0 : 0 ≤ op) (h1 : op ≤ 23) (w : World) : Calls Tryd.prog 74 #[.int .i64 op] w fun e w' => e = .returned (.string (kindB op)) ∧ w' = w := by
  have h : op = 0 ∨ op = 1 ∨ op = 2 ∨ op = 3 ∨ op = 4 ∨ op = 5 ∨ op = 6 ∨ op = 7 ∨ op = 8 ∨ op = 9 ∨ op = 10 ∨ op = 11 ∨ op = 12 ∨ op = 13 ∨ op = 14 ∨ op = 15 ∨ op = 16 ∨ op = 17 ∨ op = 18 ∨ op = 19 ∨ op = 20 ∨ op = 21 ∨ op = 22 ∨ op = 23 := by omega
  clear h0 h1
  rcases h with rfl | rfl | rfl | rfl | rfl | rfl | rfl | rfl | rfl | rfl | rfl | rfl | rfl | rfl | rfl | rfl | rfl | rfl | rfl | rfl | rfl | rfl | rfl | rfl
  all_goals
    go_enter Tryd.func74, Tryd.ntmps74
    go_wp2_with fail
    go_ret
    exact ⟨rfl, rfl⟩
end Go.Proofs.YthdinhgadefgaaaDoor.K
