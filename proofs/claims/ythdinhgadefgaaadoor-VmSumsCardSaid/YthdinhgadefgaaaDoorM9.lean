/- The machine as a function: what stays true. -/
import Derived.Test.YthdinhgadefgaaaDoorM7
import Derived.Test.YthdinhgadefgaaaDoorQ1
set_option linter.unusedVariables false
set_option linter.unusedSimpArgs false
namespace Go.Proofs.YthdinhgadefgaaaDoor.K
open Go.RowKit Go.Proofs.YthdinhgadefgaaaDoorW.PrintWords Go.Proofs.YthdinhgadefgaaaDoorW.PrintLast Go.Proofs.YthdinhgadefgaaaDoorW.PrintMore Go.Proofs.YthdinhgadefgaaaDoor.U Go.Proofs.YthdinhgadefgaaaDoor.T Go.Proofs.YthdinhgadefgaaaDoor.V

theorem vok_int {n : Int} (h : In64 n) : VOk (intV n) := ⟨h, by show 0 ≤ 64; omega⟩
theorem in64_small {n : Int} (h0 : -1000000 ≤ n) (h1 : n ≤ 1000000) : In64 n := by unfold In64; omega
theorem vok_zero : VOk (intV 0) := vok_int (in64_small (by omega) (by omega))
theorem SOk.push {s : St} (h : SOk s) (vs : List ValD) (hv : ∀ v ∈ vs, In64 v.int ∧ (v.text = false → v.bytes.size ≤ 64)) : SOk (pushS s vs) := by
  unfold pushS
  split
  · rename_i h0
    unfold pushW at h0
    split at h0
    · omega
    · rename_i hb
      split at h0
      · omega
      · rename_i hl
        refine ⟨by show (s.stack ++ vs).length ≤ 16; rw [List.length_append]; omega, fun v hm => ?_, h.rl, h.rv, h.tl, h.tv, h.vl, h.vv⟩
        rcases List.mem_append.1 hm with hm | hm
        · exact h.sv v hm
        · refine ⟨(hv v hm).1, ?_⟩
          cases ht : v.text with
          | false => exact (hv v hm).2 ht
          | true =>
            have : ¬ BigV v := fun hB => hb ⟨v, hm, hB⟩
            unfold BigV at this
            have h2 : ¬ 64 < v.bytes.size := fun h3 => this ⟨ht, h3⟩
            omega
  · exact h
theorem ok_int {n : Int} (h : In64 n) : ∀ v ∈ [intV n], In64 v.int ∧ (v.text = false → v.bytes.size ≤ 64) := fun v hv => by
  obtain rfl := List.mem_singleton.1 hv
  exact ⟨h, fun _ => (vok_int h).b⟩
theorem ok_txt (b : ByteArray) : ∀ v ∈ [txtV b], In64 v.int ∧ (v.text = false → v.bytes.size ≤ 64) := fun v hv => by
  obtain rfl := List.mem_singleton.1 hv
  exact ⟨in64_small (by show -1000000 ≤ (0 : Int); omega) (by show (0 : Int) ≤ 1000000; omega), fun e => by cases e⟩
theorem ok_two {x y : ValD} (hx : In64 x.int ∧ (x.text = false → x.bytes.size ≤ 64)) (hy : In64 y.int ∧ (y.text = false → y.bytes.size ≤ 64)) : ∀ v ∈ [x, y], In64 v.int ∧ (v.text = false → v.bytes.size ≤ 64) := fun v hv => by
  rcases List.mem_cons.1 hv with rfl | hv
  · exact hx
  · obtain rfl := List.mem_singleton.1 hv
    exact hy
theorem VOk.ok {v : ValD} (h : VOk v) : In64 v.int ∧ (v.text = false → v.bytes.size ≤ 64) := ⟨h.i, fun _ => h.b⟩
theorem ok_one' {x : ValD} (hx : VOk x) : ∀ v ∈ [x], In64 v.int ∧ (v.text = false → v.bytes.size ≤ 64) := fun v hv => by
  obtain rfl := List.mem_singleton.1 hv
  exact hx.ok
theorem getD_ok {l : List ValD} (h : ∀ v ∈ l, VOk v) (j : Nat) : VOk (l.getD j (intV 0)) := by
  rw [List.getD_eq_getElem?_getD]
  cases hj : l[j]? with
  | none => exact vok_zero
  | some v => exact h v (List.mem_of_getElem? hj)
theorem atB_in64 (s : ByteArray) (i : Int) : In64 (atB s i) := by
  unfold atB
  split
  · have : ∀ x : UInt8, x.toNat < 256 := fun x => x.toNat_lt
    have := this (s.data.toList.getD i.toNat 0)
    unfold In64
    omega
  · unfold In64; omega
theorem boolN_in (b : Bool) : In64 (boolN b) := by unfold boolN In64; split <;> omega
theorem numO_in (op a b : Int) : In64 (numO op a b) := by
  unfold numO
  repeat' split
  all_goals first | exact wrap64_in64 _ | exact boolN_in _
theorem numB_in (s : ByteArray) : In64 (numB s) := numL_in _
theorem SOk.next {s : St} (h : SOk s) : SOk (nextS s) := by
  unfold nextS
  split
  · exact h.push _ (ok_int (in64_small (by omega) (by omega)))
  · rename_i v vs hv
    have h2 : SOk { s with vals := vs } := ⟨h.sl, h.sv, h.rl, h.rv, h.tl, h.tv, by have := h.vl; rw [hv] at this; simp at this; show vs.length ≤ 1000; omega, fun x hx => h.vv x (by rw [hv]; exact List.mem_cons_of_mem _ hx)⟩
    exact h2.push _ (ok_two (ok_txt v _ (by simp)) (ok_int (n := 1) (in64_small (by omega) (by omega)) _ (by simp)))
theorem SOk.emit {s : St} (h : SOk s) (k v : ByteArray) (hv : v.size ≤ 64) : SOk (emitS s k v) := by
  unfold emitS
  split
  · rename_i h0
    unfold emitW at h0
    split at h0
    · omega
    · split at h0
      · omega
      · refine ⟨h.sl, h.sv, h.rl, h.rv, by show (s.told ++ [_]).length ≤ 40; rw [List.length_append]; simp; omega, fun p hp => ?_, h.vl, h.vv⟩
        rcases List.mem_append.1 hp with hp | hp
        · exact h.tv p hp
        · obtain rfl := List.mem_singleton.1 hp
          exact ⟨by show k.size ≤ 16; omega, hv⟩
  · exact h
theorem SOk.op {s : St} (h : SOk s) (key : ByteArray) (n : Nat) (a : Int) (ha : In64 a) (sb : ByteArray) (v : List ValD) (hv : ∀ x ∈ v, VOk x) : SOk (opS key s n a sb v).2 := by
  have g0 := getD_ok hv 0
  have g1 := getD_ok hv 1
  unfold opS
  split
  · exact ⟨h.sl, h.sv, h.rl, h.rv, h.tl, h.tv, h.vl, h.vv⟩
  · exact h.push _ (ok_int ha)
  · exact h.push _ (ok_txt sb)
  · exact h.push _ (ok_two g0.ok g0.ok)
  · exact h.push _ (ok_two g1.ok g0.ok)
  · exact h.push _ (ok_txt key)
  · exact h.next
  · exact h.push _ (ok_int (numO_in _ _ _))
  · exact h.push _ (ok_int (numO_in _ _ _))
  · exact h.push _ (ok_int (numO_in _ _ _))
  · exact h.push _ (ok_int (numO_in _ _ _))
  · exact h.push _ (ok_int (boolN_in _))
  · exact h.push _ (ok_txt _)
  · exact h.push _ (ok_int (in64_small (by omega) (by have := g0.b; omega)))
  · exact h.push _ (ok_int (atB_in64 _ _))
  · exact h.push _ (ok_txt _)
  · exact h.push _ (ok_txt _)
  · exact h.push _ (ok_int (numB_in _))
  · exact ⟨h.sl, h.sv, h.rl, h.rv, h.tl, h.tv, h.vl, h.vv⟩
  · show SOk (if _ then s else _)
    split
    · exact h
    · exact ⟨h.sl, h.sv, h.rl, h.rv, h.tl, h.tv, h.vl, h.vv⟩
  · exact h.push _ (ok_one' (getD_ok h.rv _))
  · refine ⟨h.sl, h.sv, by show (s.regs.set _ _).length = 8; rw [List.length_set]; exact h.rl, fun x hx => ?_, h.tl, h.tv, h.vl, h.vv⟩
    rcases List.mem_or_eq_of_mem_set hx with hx | rfl
    · exact h.rv x hx
    · exact g0
  · exact h.emit _ _ g1.b
  · exact h
theorem topV_mem (st : List ValD) (op : Int) : ∀ v ∈ topV st op, v ∈ st := fun v hv => List.mem_of_mem_drop hv
theorem SOk.does {s : St} (h : SOk s) (key : ByteArray) (op a : Int) (ha : In64 a) (sb : ByteArray) : SOk (doesF key s op a sb).2 := by
  unfold doesF
  split
  · exact h
  · split
    · exact h
    · exact (h.pop op).op key _ a ha sb _ (fun x hx => h.sv x (topV_mem _ _ x hx))
/-- Steps are counted by the loop alone; the place changes by jumps alone. -/
theorem pushS_rest (s : St) (vs : List ValD) : (pushS s vs).steps = s.steps ∧ (pushS s vs).at_ = s.at_ := by unfold pushS; split <;> exact ⟨rfl, rfl⟩
theorem opS_rest (key : ByteArray) (s : St) (n : Nat) (a : Int) (sb : ByteArray) (v : List ValD) : (opS key s n a sb v).2.steps = s.steps ∧ ((opS key s n a sb v).2.at_ = s.at_ ∨ ((n = 19 ∨ n = 20) ∧ (opS key s n a sb v).2.at_ = a)) := by
  unfold opS
  split
  all_goals first
    | exact ⟨rfl, .inl rfl⟩
    | exact ⟨(pushS_rest s _).1, .inl (pushS_rest s _).2⟩
    | exact ⟨rfl, .inr ⟨.inl rfl, rfl⟩⟩
    | skip
  · unfold nextS
    split
    · exact ⟨(pushS_rest s _).1, .inl (pushS_rest s _).2⟩
    · exact ⟨(pushS_rest _ _).1, .inl (pushS_rest _ _).2⟩
  · show (if _ then s else _ : St).steps = _ ∧ ((if _ then s else _ : St).at_ = _ ∨ _)
    split
    · exact ⟨rfl, .inl rfl⟩
    · exact ⟨rfl, .inr ⟨.inr rfl, rfl⟩⟩
  · unfold emitS
    split <;> exact ⟨rfl, .inl rfl⟩
theorem doesF_rest (key : ByteArray) (s : St) (op a : Int) (sb : ByteArray) : (doesF key s op a sb).2.steps = s.steps ∧ ((doesF key s op a sb).2.at_ = s.at_ ∨ ((op = 19 ∨ op = 20) ∧ (doesF key s op a sb).2.at_ = a)) := by
  unfold doesF
  split
  · exact ⟨rfl, .inl rfl⟩
  · split
    · exact ⟨rfl, .inl rfl⟩
    · obtain ⟨h1, h2⟩ := opS_rest key (popS s op) op.toNat a sb (topV s.stack op)
      refine ⟨h1, ?_⟩
      rcases h2 with h2 | ⟨h2, h3⟩
      · exact .inl h2
      · exact .inr ⟨by omega, h3⟩
end Go.Proofs.YthdinhgadefgaaaDoor.K
