/- Words of this claim: runs that end well, how arguments of any kind are read, and small lemmas on memory. Nothing of the program stands here. -/
import Derived.Test.YtckjgfbfjjiikaaProg
import Derived.Test.YtckjgfbfjjiikaaWWords
import Derived.Test.YtckjgfbfjjiikaaWLast
import Derived.Test.YtckjgfbfjjiikaaWMore
import Derived.Laws.CopyOwn
import Derived.Carry
import Derived.Laws.BitsLemmas
import Derived.IntWalk
import Derived.OpenShut
import Derived.ShutString
import Derived.ChangeArms
import Derived.SizedLaws
set_option linter.unusedVariables false
set_option linter.unusedSimpArgs false
namespace Go.Proofs.Ytckjgfbfjjiikaa.U
open Go.RowKit Go.Proofs.YtckjgfbfjjiikaaW.PrintWords Go.Proofs.YtckjgfbfjjiikaaW.PrintLast Go.Proofs.YtckjgfbfjjiikaaW.PrintMore

/-! ### runs -/
/-- A run ends well, and of its end R holds. -/
def Runs {α : Type} (P : Program) (s : Sem α) (w : World) (R : α → World → Prop) : Prop := ∃ v w', s.run P w = .ok v w' ∧ R v w'
theorem upon_runs {α : Type} {P : Program} {s : Sem α} {w : World} {R : α → World → Prop} {o : Oper} {a : Act} {K : Act → World → Prop} {Q : Exit → Act → World → Prop} {f : α → World → Result Next}
    (h : Runs P s w R) (k : ∀ v w', R v w' → Oper.upon P o a K Q (f v w')) : Oper.upon P o a K Q ((s.run P w).andThen f) := by
  obtain ⟨v, w', hr, hR⟩ := h
  rw [hr]
  exact k v w' hR
theorem wpList_append_runs {P : Program} {w : World} {ops : Array Oper} {rest : List Oper} {o : Oper} {a : Act} {Q : Exit → Act → World → Prop} {R : Value → World → Prop} (hgd : o.guard = none) (s x : Operand) (t t' : TypeId)
    (ho : o.op = .call { callee := .builtin .append, args := #[s, x], argTypes := #[t, t'] }) (vs vx : Value) (hs : a.eval s = vs) (hx : a.eval x = vx)
    (h : Runs P (Builtin.append_ #[t, t'] o.type #[vs, vx]) w R) (k : ∀ v w', R v w' → wpList P ops Q rest (a.put o.dst v) w') : wpList P ops Q (o :: rest) a w := by
  refine wpList_plain hgd fun _ hK => ?_
  obtain ⟨v, w', hr, hR⟩ := h
  unfold Oper.wp execOp
  simp only [ho, resolve, invoke, builtin, Sem.run_bind, Sem.run_pure, Result.andThen_ok, List.map_toArray, List.map_cons, List.map_nil, hs, hx, hr]
  exact hK _ _ (k v w' hR)
theorem Runs.mono {α : Type} {P : Program} {s : Sem α} {w : World} {R R' : α → World → Prop} (h : Runs P s w R) (k : ∀ v w', R v w' → R' v w') : Runs P s w R' := by
  obtain ⟨v, w', hr, hR⟩ := h
  exact ⟨v, w', hr, k v w' hR⟩

/-- A Bool is returned of which R holds. -/
def RetBool (R : Bool → Prop) (e : Ending) : Prop := ∃ r : Bool, e = .returned (.bool r) ∧ R r
theorem RetBool.mk {R : Bool → Prop} (r : Bool) (h : R r) : RetBool R (.returned (.bool r)) := ⟨r, rfl, h⟩

/-! ### blocks -/
theorem blk_lt' {w : World} {g : Nat} {o : Obj} (h : w.heap[g]? = some o) : g < w.heap.size := (Array.getElem?_eq_some_iff.1 h).1
theorem alloc_at (w : World) (o : Obj) : (w.alloc o).heap[w.heap.size]? = some o := heap_alloc_new w o
theorem alloc_old (w : World) (o : Obj) (g : Nat) (h : g < w.heap.size) : (w.alloc o).heap[g]? = w.heap[g]? := Below.heap_alloc w o g h
theorem alloc_keeps {w : World} {g : Nat} {o : Obj} (h : w.heap[g]? = some o) (o' : Obj) : (w.alloc o').heap[g]? = some o := (alloc_old w o' g (blk_lt' h)).trans h
theorem cell_of_blk {w : World} {g j : Nat} {cs : List Value} {t : TypeId} {fr : Nat × Nat} (h : w.heap[g]? = some (.cells cs.toArray t fr)) : w.cell? ⟨g, j, none⟩ = cs[j]? := by
  rw [cell_of_row _ _ _ _ _ _ h]
  simp
theorem cells_of_blk {w : World} {g : Nat} {cs : List Value} {t : TypeId} {fr : Nat × Nat} (h : w.heap[g]? = some (.cells cs.toArray t fr)) : ∀ j u, cs[j]? = some u → w.cell? ((⟨g, 0, none⟩ : Addr).add j) = some u := by
  intro j u hj
  rw [add_plain, cell_of_blk h, hj]
theorem frozen_of_blk {w : World} {g j : Nat} {cs : Array Value} {t : TypeId} (h : w.heap[g]? = some (.cells cs t (0, 0))) : w.frozen? ⟨g, j, none⟩ = false := by
  simp [World.frozen?, h]
/-- A fresh literal row of one slice's cells. -/
theorem cells_new (w : World) (cs : List Value) (e : Nat) : ∀ j u, cs[j]? = some u → (w.alloc (.cells cs.toArray e)).cell? ((⟨w.heap.size, 0, none⟩ : Addr).add j) = some u :=
  cells_of_blk (alloc_at w _)
theorem setCell_blk {w : World} {g j : Nat} {cs : List Value} {t : TypeId} {fr : Nat × Nat} (h : w.heap[g]? = some (.cells cs.toArray t fr)) (v : Value) : (w.setCell ⟨g, j, none⟩ v).heap[g]? = some (.cells (cs.set j v).toArray t fr) := by
  simp only [World.setCell, Array.getElem?_modify, if_true, h, Option.map_some]
  simp
theorem setCell_other {w : World} {g k : Nat} (a : Addr) (v : Value) (hk : k ≠ a.block) : (w.setCell a v).heap[k]? = w.heap[k]? := Below.heap_setCell w a v k hk

theorem grownBy_setRow (w : World) (g : Nat) (cs : Array Value) : w.grownBy (w.setRow g cs) (some g) :=
  ⟨rfl, rfl, rfl, by simp, fun k _ hk => setRow_other w g k _ (fun e => hk (by simp [e]))⟩
theorem below_self {B : Nat} {w0 w w' : World} {g : Nat} (h : Below B w0 w) (hg : w.grownBy w' (some g)) (hB : B ≤ w.heap.size) (hr : B ≤ g) : Below B w0 w' := h.grown hg hB (fun k hk => by cases hk; exact hr)

/-! ### a type's row of the table -/
theorem info3 {P : Program} {e : TypeId} {z : Option Value} {size bytes : Nat} (h : (P.info? e).map (fun i => (i.zero, i.size, i.bytes)) = some (z, size, bytes)) : ∃ i, P.info? e = some i ∧ i.zero = z ∧ i.size = size ∧ i.bytes = bytes := by
  obtain ⟨i, hi, hzz⟩ := Option.map_eq_some_iff.1 h
  simp only [Prod.mk.injEq] at hzz
  exact ⟨i, hi, hzz.1, hzz.2.1, hzz.2.2⟩

/-! ### make, append, copy -/
/-- n zero elements' cells. -/
def zcells (z : Value) (n : Nat) : List Value := (List.replicate n z.cells.toList).flatten
theorem zcells_length (z : Value) (n : Nat) : (zcells z n).length = n * z.cells.size := by simp [zcells]
theorem zcells_one (z : Value) (n : Nat) (h : z.cells = #[z]) : zcells z n = List.replicate n z := by
  unfold zcells
  rw [h]
  induction n with
  | zero => rfl
  | succ n ih => rw [List.replicate_succ, List.replicate_succ, List.flatten_cons, ih]; rfl
theorem madeCells_list (z : Array Value) (n : Nat) : (madeCells z n).toList = (List.range n).map (fun i => z[i % z.size]!) := by
  unfold madeCells
  rw [Array.toList_map, Array.toList_range]
theorem madeCells_toList (z : Array Value) (n : Nat) (hz : 0 < z.size) : (madeCells z (n * z.size)).toList = (List.replicate n z.toList).flatten := by
  rw [madeCells_list]
  induction n with
  | zero => simp
  | succ n ih =>
    rw [List.replicate_succ', List.flatten_append, ← ih, Nat.succ_mul, List.range_add, List.map_append, List.map_map]
    congr 1
    apply List.ext_getElem
    · simp
    · intro i h1 h2
      have hi : i < z.size := by simpa using h1
      simp [Nat.mod_eq_of_lt hi, hi, Nat.add_mod, Nat.mul_mod_left]
theorem make_runs (P : Program) (w : World) (t e : TypeId) (z : Value) (size bytes : Nat) (ht : P.underlying t = some (.slice e)) (hinfo : (P.info? e).map (fun i => (i.zero, i.size, i.bytes)) = some (some z, size, bytes)) (hz : z.cells.size = size) (hs : 0 < size)
    (kl kc : IntKind) (L C : Int) (n c : Nat) (hL : L = n) (hC : C = c) (hn : n ≤ c) (hb : bytes * c ≤ 281474976710656) (h63 : c ≤ 9223372036854775807) :
    Runs P (Instr.makeSlice t (.int kl L) (.int kc C)) w fun v w' => v = .slice (some ⟨w.heap.size, 0, none⟩) n c ∧ w' = w.alloc (.cells (zcells z c).toArray e) := by
  obtain ⟨i, hi, hz0, hz1, hz2⟩ := info3 hinfo
  subst hL hC
  have hb' : (i.bytes : Int) * (c : Int) ≤ 281474976710656 := by
    rw [hz2]
    have h0 : ((bytes * c : Nat) : Int) ≤ 281474976710656 := by omega
    rwa [Int.natCast_mul] at h0
  have h := run_make (P := P) w t e i z ht hi hz0 kl kc (n : Int) (c : Int) (by omega) (by omega) hb' (by omega)
  refine ⟨_, _, h, rfl, ?_⟩
  simp only [Int.toNat_natCast]
  congr 2
  apply Array.toList_inj.1
  rw [hz1, ← hz, madeCells_toList _ _ (by omega)]
  rfl
theorem append_room_runs (P : Program) (w : World) (t ty e : TypeId) (size bytes : Nat) (z : Option Value) (ht : P.underlying t = some (.slice e)) (hinfo : (P.info? e).map (fun i => (i.zero, i.size, i.bytes)) = some (z, size, bytes))
    (ad : Addr) (g n cap : Nat) (cur : List Value) (had : ad = ⟨g, 0, none⟩) (hg : w.heap[g]? = some (.cells cur.toArray e (0, 0))) (a : Addr) (m c : Nat) (news : List Value) (hl : news.length = m * size)
    (hnews : ∀ j u, news[j]? = some u → w.cell? (a.add j) = some u) (h1 : ∀ u ∈ news, u.oneCell' = true) (hroom : n + m ≤ cap) (hfit : n * size + news.length ≤ cur.length) :
    Runs P (Builtin.append_ #[t, t] ty #[.slice (some ad) n cap, .slice (some a) m c]) w fun v w' =>
      v = .slice (some ⟨g, 0, none⟩) (n + m) cap ∧ w'.heap[g]? = some (.cells (cur.take (n * size) ++ news ++ cur.drop (n * size + news.length)).toArray e (0, 0)) ∧ w.grownBy w' (some g) := by
  subst had
  obtain ⟨i, hi, hz0, hz1, hz2⟩ := info3 hinfo
  subst hz1
  have hr := run_append_room (P := P) w t ty e i ht hi g n cap cur.toArray hg a m c news hl hnews h1 hroom (by simpa using hfit)
  refine ⟨_, _, hr, rfl, ?_, grownBy_setRow _ _ _⟩
  rw [setRow_heap w g _ _ e (0, 0) hg]
/-- Append of nothing (nil): the slice as it is. -/
theorem append_none_runs (P : Program) (w : World) (t ty e : TypeId) (size bytes : Nat) (z : Option Value) (ht : P.underlying t = some (.slice e)) (hinfo : (P.info? e).map (fun i => (i.zero, i.size, i.bytes)) = some (z, size, bytes))
    (A : Option Addr) (n cap : Nat) (hn : n ≤ cap) (c : Nat) :
    Runs P (Builtin.append_ #[t, t] ty #[.slice A n cap, .slice none 0 c]) w fun v w' => v = .slice A n cap ∧ w' = w := by
  obtain ⟨i, hi, hz0, hz1, hz2⟩ := info3 hinfo
  refine ⟨_, _, ?_, rfl, rfl⟩
  cases A <;> simp [Builtin.append_, run_underlying ht, sizeOf, typeInfo, hi, Builtin.lenOf, Builtin.firstCells, hn, storeCells]
theorem reads_cells {w : World} {k : IntKind} {A : Option Addr} {n : Nat} {xs : List Int} (h : Kd.C (Kd.int k) w A n xs) (hn : 0 < n) : ∃ ad, A = some ad ∧ ∀ j v, (nums k xs)[j]? = some v → w.cell? (ad.add j) = some v := by
  obtain ⟨h1, h2, h3⟩ := Kd.reads_of_C (d := 0) h
  obtain ⟨ad, e, hc⟩ := h3 hn
  refine ⟨ad, e, fun j v hj => ?_⟩
  obtain ⟨hl, hv⟩ := List.getElem?_eq_some_iff.1 hj
  have hl' : j < xs.length := by simpa [nums] using hl
  rw [hc j (by omega), ← hv]
  simp [nums, List.getD_eq_getElem?_getD, hl']
theorem nums_one (k : IntKind) (xs : List Int) : ∀ v ∈ nums k xs, v.oneCell' = true := fun v hv => by obtain ⟨x, _, rfl⟩ := List.mem_map.1 hv; rfl

/-- The cells of a row that is read. -/
theorem C_cells {α : Type} {d : Kd α} {w : World} {A : Option Addr} {n : Nat} {xs : List α} (h : d.C w A n xs) : ∃ cs : List Value, Reps (d.K w) d.sz xs cs ∧ (∀ u ∈ cs, u.oneCell' = true) ∧ (0 < n → ∃ ad, A = some ad ∧ ∀ j u, cs[j]? = some u → w.cell? (ad.add j) = some u) := by
  obtain ⟨h1, h2, h3⟩ := h
  rcases Nat.eq_zero_or_pos n with hn | hn
  · obtain rfl : xs = [] := List.eq_nil_of_length_eq_zero (by omega)
    exact ⟨[], Reps.none _ _, by simp, fun h => by omega⟩
  · obtain ⟨ad, e, hc⟩ := h3 hn
    suffices hh : ∀ m, m ≤ xs.length → ∃ cs : List Value, Reps (d.K w) d.sz (xs.take m) cs ∧ (∀ u ∈ cs, u.oneCell' = true) ∧ ∀ j u, cs[j]? = some u → w.cell? (ad.add j) = some u by
      obtain ⟨cs, r, o, c⟩ := hh xs.length (Nat.le_refl _)
      rw [List.take_length] at r
      exact ⟨cs, r, o, fun _ => ⟨ad, e, c⟩⟩
    intro m
    induction m with
    | zero => intro _; exact ⟨[], by simpa using Reps.none _ _, by simp, by simp⟩
    | succ m ih =>
      intro hm
      obtain ⟨cs, r, o, c⟩ := ih (by omega)
      obtain ⟨c1, l1, k1, cell1⟩ := hc m xs[m] (List.getElem?_eq_getElem (by omega))
      have hlen : cs.length = m * d.sz := by rw [r.1, List.length_take, Nat.min_eq_left (by omega)]
      refine ⟨cs ++ c1, ?_, ?_, ?_⟩
      · rw [List.take_succ_eq_append_getElem (by omega)]
        exact r.snoc k1 l1
      · intro u hu
        rcases List.mem_append.1 hu with hu | hu
        · exact o u hu
        · exact d.K_one k1 u hu
      · intro j u hj
        rcases Nat.lt_or_ge j cs.length with hl | hl
        · rw [List.getElem?_append_left hl] at hj
          exact c j u hj
        · rw [List.getElem?_append_right hl] at hj
          have := cell1 _ _ hj
          rw [hlen, Nat.add_sub_cancel' (by omega)] at this
          exact this

/-! ### kinds without rows inside; rows of such that the call owns -/
/-- What a value's cells say hangs on no memory. -/
structure Flat {α : Type} (d : Kd α) : Prop where
  mk' : ∀ {w : World} {x : α} {cs : List Value}, d.K w x cs → ∀ (w' : World) (base : Nat) (ok : Nat → Prop), d.M w' base ok x cs
theorem flat_scalar {α : Type} (enc : α → Value) (h1 : ∀ x, (enc x).oneCell' = true) : Flat (Kd.scalar enc h1) := ⟨fun h _ _ _ => h⟩
theorem flat_int (k : IntKind) : Flat (Kd.int k) := flat_scalar _ _
theorem flat_bool : Flat Kd.bool := flat_scalar _ _
theorem flat_string : Flat Kd.string := flat_scalar _ _
theorem Flat.pair {α β : Type} {a : Kd α} {b : Kd β} (ha : Flat a) (hb : Flat b) : Flat (Kd.pair a b) :=
  ⟨fun ⟨c0, c1, e, h0, h1⟩ w' base ok => ⟨c0, c1, e, ha.mk' h0 w' base ok, hb.mk' h1 w' base ok⟩⟩
theorem Flat.iso {α β : Type} {d : Kd α} (h : Flat d) (f : β → α) : Flat (Kd.iso d f) := ⟨fun hk w' base ok => h.mk' hk w' base ok⟩
/-- A row of flat elements that the call owns (from block base on). -/
def Own {α : Type} (d : Kd α) (e : TypeId) (w : World) (base : Nat) (v : Value) (xs : List α) : Prop := d.R e w base (fun _ => True) v xs
section
variable {α : Type} {d : Kd α} {e : TypeId} {w w' : World} {base : Nat} {v : Value} {xs ys : List α}
theorem Own.nil (d : Kd α) (e : TypeId) (w : World) (base : Nat) : Own d e w base (.slice none 0 0) [] := Kd.R_nil _ _ _ _ _
theorem Own.reads (h : Own d e w base v xs) : ∃ A c, v = .slice A xs.length c ∧ xs.length ≤ c ∧ d.C w A xs.length xs := Kd.R_reads h
theorem Own.below (h : Own d e w base v xs) (hb : Below w.heap.size w w') : Own d e w' base v xs := Kd.R_below h hb
theorem Own.lower {base' : Nat} (h : Own d e w base v xs) (hb : base' ≤ base) : Own d e w base' v xs := Kd.R_lower h hb
theorem Own.lt (h : Own d e w base v xs) : ∀ k, v.ownBlock = some k → k < w.heap.size := Kd.R_lt h
theorem Own.base_ (h : Own d e w base v xs) : ∀ k, v.ownBlock = some k → base ≤ k := Kd.R_base h
/-- Another row is written, or grows. -/
theorem Own.other (hf : Flat d) (h : Own d e w base v xs) {row : Option Nat} (hg : w.grownBy w' row) (hne : ∀ k, v.ownBlock = some k → row ≠ some k) : Own d e w' base v xs := by
  obtain ⟨_, inner, ho, hr⟩ := h
  refine ⟨fun _ _ => trivial, inner, own_other ho hg ?_, hr.imp_ fun p c hp => hf.mk' (d.K_of_M hp) _ _ _⟩
  cases hv : v.ownBlock with
  | none => exact .inl rfl
  | some k => exact .inr (fun e => hne k hv e.symm)
theorem Own.is {A : Option Addr} {n c : Nat} (h : Own d e w base (.slice A n c) xs) : n = xs.length ∧ n ≤ c ∧ d.C w A xs.length xs := Kd.R_reads' h
/-- A block below stays when a row of the call's own from above is written. -/
theorem grown_keeps {g : Nat} {o : Obj} (hg : w.grownBy w' v.ownBlock) (h : w.heap[g]? = some o) (hne : ∀ k, v.ownBlock = some k → g ≠ k) : w'.heap[g]? = some o := by
  rw [hg.block g (blk_lt' h) (fun e => hne g e.symm rfl)]
  exact h
theorem append_none_own (P : Program) (t ty : TypeId) (size bytes : Nat) (z : Option Value) (ht : P.underlying t = some (.slice e)) (hinfo : (P.info? e).map (fun i => (i.zero, i.size, i.bytes)) = some (z, size, bytes)) (h : Own d e w base v xs) (c : Nat) :
    (Builtin.append_ #[t, t] ty #[v, .slice none 0 c]).run P w = .ok v w := by
  obtain ⟨A, cc, rfl, hl, _⟩ := h.reads
  obtain ⟨_, _, hr, rfl, rfl⟩ := append_none_runs P w t ty e size bytes z ht hinfo A xs.length cc hl c
  exact hr
/-- append(own, read...): the own row, longer. -/
theorem append_own_runs (P : Program) (hf : Flat d) (t ty : TypeId) (z : Value) (bytes : Nat) (ht : P.underlying t = some (.slice e)) (hinfo : (P.info? e).map (fun i => (i.zero, i.size, i.bytes)) = some (some z, d.sz, bytes)) (hz : z.cells.size = d.sz) (hs : 0 < d.sz)
    (h : Own d e w base v xs) (A : Option Addr) (n c : Nat) (hn : n = ys.length) (hC : d.C w A ys.length ys) (hbase : base ≤ w.heap.size) (hl : (xs.length + ys.length) * bytes ≤ 140737488355328) (h63 : xs.length + ys.length ≤ 9223372036854775807) :
    Runs P (Builtin.append_ #[t, t] ty #[v, .slice A n c]) w fun v1 w1 => Own d e w1 base v1 (xs ++ ys) ∧ w.grownBy w1 v.ownBlock := by
  subst hn
  rcases A with _ | ad
  · have h0 : ys = [] := by
      rcases Nat.eq_zero_or_pos ys.length with h0 | h0
      · exact List.eq_nil_of_length_eq_zero h0
      · obtain ⟨ad, e', _⟩ := hC.2.2 h0
        cases e'
    subst h0
    exact ⟨_, _, append_none_own P t ty _ _ _ ht hinfo h c, by simpa using h, World.grownBy.refl _ _⟩
  · obtain ⟨_, inner, ho, hr⟩ := h
    obtain ⟨cs, r1, o1, c1⟩ := C_cells hC
    obtain ⟨i, hi, hz0, hz1, hz2⟩ := info3 hinfo
    have hcs : ∀ j u, cs[j]? = some u → w.cell? (ad.add j) = some u := by
      rcases Nat.eq_zero_or_pos ys.length with h0 | h0
      · have : cs = [] := List.eq_nil_of_length_eq_zero (by rw [r1.1, h0, Nat.zero_mul])
        subst this
        simp
      · obtain ⟨ad', e', hc'⟩ := c1 h0
        injection e' with e'
        subst e'
        exact hc'
    obtain ⟨v', w', hrun, hown, hg, _⟩ := run_append_own (P := P) w base t ty e i z d.sz bytes ht hi hz0 hz1 hz2 hz hs v xs.length inner ho ad ys.length c cs r1.1 hcs o1 (by unfold maxLen; omega) hl hbase
    refine ⟨v', w', hrun, ⟨fun _ _ => trivial, inner ++ cs, by rw [List.length_append]; exact hown, ?_⟩, hg⟩
    refine ⟨by rw [List.length_append, hr.1, r1.1, List.length_append, Nat.add_mul], fun j p hj => ?_⟩
    rcases Nat.lt_or_ge j xs.length with hlt | hge
    · rw [List.getElem?_append_left hlt] at hj
      have h1 : j * d.sz + d.sz ≤ inner.length := by rw [hr.1, ← Nat.succ_mul]; exact Nat.mul_le_mul_right _ hlt
      rw [List.drop_append_of_le_length (by omega), List.take_append_of_le_length (by rw [List.length_drop]; omega)]
      exact hf.mk' (d.K_of_M (hr.2 j p hj)) _ _ _
    · rw [List.getElem?_append_right hge] at hj
      have := r1.2 (j - xs.length) p hj
      have e2 : j * d.sz = inner.length + (j - xs.length) * d.sz := by rw [hr.1, ← Nat.add_mul, Nat.add_sub_cancel' hge]
      rw [e2, ← List.drop_drop, List.drop_left]
      exact hf.mk' this _ _ _
/-- append(own, one element), the element's cells new made. -/
theorem append_one_runs (P : Program) (hf : Flat d) (t ty : TypeId) (z : Value) (bytes : Nat) (ht : P.underlying t = some (.slice e)) (hinfo : (P.info? e).map (fun i => (i.zero, i.size, i.bytes)) = some (some z, d.sz, bytes)) (hz : z.cells.size = d.sz) (hs : 0 < d.sz)
    {W : World} {cs : List Value} {x : α} (h : Own d e W base v xs) (hk : d.K W x cs) (hbase : base ≤ W.heap.size) (hl : (xs.length + 1) * bytes ≤ 140737488355328) (h63 : xs.length + 1 ≤ 9223372036854775807) (q : TypeId) (ad : Addr) (had : ad = ⟨W.heap.size, 0, none⟩) (arr : Array Value) (harr : arr = cs.toArray) :
    Runs P (Builtin.append_ #[t, t] ty #[v, .slice (some ad) 1 1]) (W.alloc (.cells arr q)) fun v1 w1 => Own d e w1 base v1 (xs ++ [x]) ∧ (W.alloc (.cells arr q)).grownBy w1 v.ownBlock := by
  subst had harr
  have hb : Below W.heap.size W (W.alloc (.cells cs.toArray q)) := (Below.refl _ _).alloc (Nat.le_refl _) _
  refine append_own_runs P hf t ty z bytes ht hinfo hz hs (h.below hb) (ys := [x]) (some ⟨W.heap.size, 0, none⟩) 1 1 rfl ?_ (by simpa using Nat.le_succ_of_le hbase) (by simpa using hl) (by simpa using h63)
  refine ⟨rfl, by simp, fun _ => ⟨_, rfl, fun j p hj => ?_⟩⟩
  cases j with
  | zero =>
    have : x = p := by simpa using hj
    subst this
    exact ⟨cs, d.K_len hk, d.K_below hb hk, fun i u hu => by rw [Nat.zero_mul, Nat.zero_add]; exact cells_new _ _ _ _ _ hu⟩
  | succ j => simp at hj
/-- append(own bytes, a string...). -/
theorem append_str_runs (P : Program) (t u ty e : TypeId) {w : World} {base : Nat} {v : Value} {xs : List Int} (ht : P.underlying t = some (.slice e)) (hu : P.underlying u = some .string) (hinfo : (P.info? e).map (fun i => (i.zero, i.size, i.bytes)) = some (some (.int .u8 0), 1, 1))
    (h : Own (Kd.int .u8) e w base v xs) (s : ByteArray) (hbase : base ≤ w.heap.size) (hl : xs.length + s.size ≤ 140737488355328) :
    Runs P (Builtin.append_ #[t, u] ty #[v, .string s]) w fun v1 w1 => Own (Kd.int .u8) e w1 base v1 (xs ++ bytesOf s) ∧ w.grownBy w1 v.ownBlock := by
  obtain ⟨i, hi, hz0, hz1, hz2⟩ := info3 hinfo
  have ho := Kd.own_of_R h
  obtain ⟨v', w', hr, h1, h2, _⟩ := Lib.run_append_own_string (P := P) w base t u ty e i ht hu hi hz0 hz1 hz2 v xs.length (encs (Value.int .u8) xs) ho s (by unfold maxLen; omega) hl hbase
  refine ⟨v', w', hr, Kd.R_of_own ?_ (fun _ _ => trivial), h2⟩
  have hlen : (xs ++ bytesOf s).length = xs.length + s.size := by rw [List.length_append, bytesOf_length]
  have hc : encs (Value.int .u8) (xs ++ bytesOf s) = encs (Value.int .u8) xs ++ Lib.strCells s := by
    unfold encs
    rw [List.map_append]
    congr 1
    simp [bytesOf, Lib.strCells]
  rw [hlen, hc]
  exact h1
end

/-- A block known whole reads as its list. -/
theorem blk_nums {w : World} {k : IntKind} {g : Nat} {xs : List Int} {rest : List Value} {t : TypeId} {fr : Nat × Nat} (h : w.heap[g]? = some (.cells (nums k xs ++ rest).toArray t fr)) (hl : xs.length ≤ 9223372036854775807) : Kd.C (Kd.int k) w (some ⟨g, 0, none⟩) xs.length xs := by
  refine Kd.C_of_reads (d := 0) ⟨rfl, hl, fun _ => ⟨_, rfl, fun j hj => ?_⟩⟩
  rw [add_plain, cell_of_blk h, List.getElem?_append_left (by simpa [nums] using hj)]
  simp [nums, List.getD_eq_getElem?_getD, hj]
theorem lit_nums (w : World) (k : IntKind) (xs : List Int) (e : Nat) (arr : Array Value) (h : arr = (nums k xs).toArray) (hl : xs.length ≤ 9223372036854775807) : Kd.C (Kd.int k) (w.alloc (.cells arr e)) (some ⟨w.heap.size, 0, none⟩) xs.length xs := by
  subst h
  exact blk_nums (rest := []) (by rw [List.append_nil]; exact alloc_at w _) hl
theorem string_runs (P : Program) (src e dst : TypeId) (hs : P.underlying src = some (.slice e)) (he : P.underlying e = some (.int .u8)) (hd : P.underlying dst = some .string) {w : World} {A : Option Addr} {n m c : Nat} {xs : List Int}
    (h : Kd.C (Kd.int .u8) w A n xs) (hm : m = n) : Runs P (convert src dst (.slice A m c)) w fun v w' => v = .string (strOfNums xs) ∧ w' = w := by
  subst hm
  exact ⟨_, _, Kd.C_string hs he hd h, rfl, rfl⟩

/-! ### how arguments are read: any value that can be read as data is of its kind -/
section
variable {P : Program} {α β : Type}
/-- Whatever can be read as data at type t is of kind d, and G holds of it. -/
structure Opens (P : Program) (t : TypeId) (d : Kd α) (G : α → Prop) : Prop where
  out : ∀ {H : Type} {enc : TypeId × Value → H} {W : World} {base : Nat} {spare : Nat → Bool} {held : Bool} {fuel : Nat} {cs : List Value} {x : DataW H × List MemPlace}, DataW.trod enc P W base spare held fuel t cs = some x → ∃ y, d.K W y cs ∧ G y
theorem Opens.int {t : TypeId} {k : IntKind} (ht : P.underlying t = some (.int k)) : Opens P t (Kd.int k) (fun n => (Lit.int k n).wf = true) := ⟨fun h => by
  obtain ⟨n, rfl, _, hw⟩ := DataW.trod_int ht h
  exact ⟨n, rfl, hw⟩⟩
theorem Opens.bool {t : TypeId} (ht : P.underlying t = some .bool) : Opens P t Kd.bool (fun _ => True) := ⟨fun h => by
  obtain ⟨b, rfl, _⟩ := DataW.trod_bool ht h
  exact ⟨b, rfl, trivial⟩⟩
theorem Opens.string {t : TypeId} (ht : P.underlying t = some .string) : Opens P t Kd.string (fun s => s.size ≤ 9223372036854775807) := ⟨fun h => by
  obtain ⟨s, rfl, _, hs⟩ := DataW.trod_string ht h
  exact ⟨s, rfl, by unfold maxLen at hs; omega⟩⟩
theorem cells?_get {w : World} {base : Nat} {a : Addr} {n : Nat} {cs : List Value} (h : w.cells? base a n = some cs) : cs.length = n ∧ ∀ i u, cs[i]? = some u → w.cell? (a.add i) = some u := by
  unfold World.cells? at h
  split at h
  · have hl := mapM_some_length h
    have hg := mapM_some_get h
    have hn : cs.length = n := by simpa using hl
    refine ⟨hn, fun i u hi => ?_⟩
    have hlt : i < n := by have := (List.getElem?_eq_some_iff.1 hi).1; omega
    rw [hg i i (by simp [hlt])]
    exact hi
  · cases h
theorem add_add' (a : Addr) (i j : Nat) : (a.add i).add j = a.add (i + j) := by
  unfold Addr.add
  by_cases hi : i = 0 <;> by_cases hj : j = 0 <;> simp [hi, hj, Nat.add_assoc]
theorem Opens.slice {t e : TypeId} {d : Kd α} {G : α → Prop} (q : Nat) (ht : P.underlying t = some (.slice e)) (hc : P.cellsOf e = d.sz) (h : Opens P e d G) : Opens P t (Kd.slice q d) (fun xs => ∀ x ∈ xs, G x) := ⟨fun {H enc W base spare held fuel cs x} hx => by
  rcases DataW.trod_slice ht hx with ⟨rfl, _⟩ | ⟨a, len, cap, elems, rest, n, _, rfl, _, hb, hl, hm, hlen, hel, _, _⟩
  · exact ⟨[], ⟨none, 0, rfl, Nat.le_refl _, Kd.C_nil d W⟩, by simp⟩
  · have each : ∀ i, i < len → ∃ y : α, G y ∧ ∃ c : List Value, c.length = d.sz ∧ d.K W y c ∧ ∀ j u, c[j]? = some u → W.cell? (a.add (i * d.sz + j)) = some u := by
      intro i hi
      have h1 := hel i hi
      rw [List.getElem?_eq_getElem (by omega), Option.bind_eq_some_iff] at h1
      obtain ⟨c, hc1, hc2⟩ := h1
      obtain ⟨hcl, hcg⟩ := cells?_get hc1
      obtain ⟨y, hk, hg⟩ := h.out hc2
      refine ⟨y, hg, c, by rw [hcl, hc], hk, fun j u hj => ?_⟩
      have := hcg j u hj
      rw [add_add', hc] at this
      exact this
    suffices hh : ∀ m, m ≤ len → ∃ ys : List α, ys.length = m ∧ (∀ y ∈ ys, G y) ∧ ∀ i y, ys[i]? = some y → ∃ c : List Value, c.length = d.sz ∧ d.K W y c ∧ ∀ j u, c[j]? = some u → W.cell? (a.add (i * d.sz + j)) = some u by
      obtain ⟨ys, hy, hg, hk⟩ := hh len (Nat.le_refl _)
      refine ⟨ys, ⟨some a, cap, by rw [hy], by omega, rfl, by unfold maxLen at hm; omega, fun _ => ⟨a, rfl, hk⟩⟩, hg⟩
    intro m
    induction m with
    | zero => intro _; exact ⟨[], rfl, by simp, by simp⟩
    | succ m ih =>
      intro hm'
      obtain ⟨ys, hy, hg, hk⟩ := ih (by omega)
      obtain ⟨y, hG, hy2⟩ := each m (by omega)
      refine ⟨ys ++ [y], by simp [hy], ?_, ?_⟩
      · intro z hz
        rcases List.mem_append.1 hz with hz | hz
        · exact hg z hz
        · rw [List.mem_singleton.1 hz]; exact hG
      · intro i z hz
        rcases Nat.lt_or_ge i ys.length with hlt | hge
        · rw [List.getElem?_append_left hlt] at hz
          exact hk i z hz
        · have hi : i = m := by
            have := (List.getElem?_eq_some_iff.1 hz).1
            simp at this
            omega
          subst hi
          rw [← hy] at hz
          have : y = z := by simpa using hz
          subst this
          exact hy2⟩
/-- The fields from off on. -/
structure OpensF (P : Program) (fs : List Field) (off : Nat) (d : Kd α) (G : α → Prop) : Prop where
  out : ∀ {H : Type} {enc : TypeId × Value → H} {W : World} {base : Nat} {spare : Nat → Bool} {held : Bool} {fuel : Nat} {cs : List Value} {ys : List (DataW H × List MemPlace)},
    cs.length = off + d.sz → ys.length = fs.length → (∀ (i : Nat) (f : Field), fs[i]? = some f → DataW.trod enc P W base spare held fuel f.type ((cs.drop f.offset).take (P.cellsOf f.type)) = ys[i]?) → ∃ y, d.K W y (cs.drop off) ∧ G y
theorem OpensF.one {f : Field} {off : Nat} {d : Kd α} {G : α → Prop} (h : Opens P f.type d G) (ho : f.offset = off) (hc : P.cellsOf f.type = d.sz) : OpensF P [f] off d G := ⟨fun {H enc W base spare held fuel cs ys} hl hy h1 => by
  have h2 := h1 0 f rfl
  rw [List.getElem?_eq_getElem (by rw [hy]; simp), ho, hc, List.take_of_length_le (by rw [List.length_drop]; omega)] at h2
  exact h.out h2⟩
theorem OpensF.cons {f : Field} {fs : List Field} {off off' : Nat} {a : Kd α} {b : Kd β} {G : α → Prop} {G' : β → Prop} (h : Opens P f.type a G) (ho : f.offset = off) (hc : P.cellsOf f.type = a.sz) (hoff : off' = off + a.sz) (hr : OpensF P fs off' b G') :
    OpensF P (f :: fs) off (Kd.pair a b) (fun x => G x.1 ∧ G' x.2) := ⟨fun {H enc W base spare held fuel cs ys} hl hy h1 => by
  have hl' : cs.length = off + (a.sz + b.sz) := hl
  have h2 := h1 0 f rfl
  rw [List.getElem?_eq_getElem (by rw [hy]; simp), ho, hc] at h2
  obtain ⟨y, hk, hg⟩ := h.out h2
  cases ys with
  | nil => simp at hy
  | cons y0 ys =>
    obtain ⟨z, hkz, hgz⟩ := hr.out (cs := cs) (ys := ys) (by omega) (by simpa using hy) (fun i g hi => by
      have := h1 (i + 1) g (by simpa using hi)
      simpa using this)
    refine ⟨(y, z), ⟨(cs.drop off).take a.sz, cs.drop off', ?_, hk, hkz⟩, hg, hgz⟩
    rw [hoff, ← List.drop_drop, List.take_append_drop]⟩
theorem Opens.struct {t : TypeId} {fs : List Field} {d : Kd α} {G : α → Prop} (ht : P.underlying t = some (.struct fs.toArray)) (hc : P.cellsOf t = d.sz) (h : OpensF P fs 0 d G) : Opens P t d G := ⟨fun {H enc W base spare held fuel cs x} hx => by
  obtain ⟨xs, n, _, _, hl, hxs, hf⟩ := DataW.trod_struct ht hx
  obtain ⟨y, hk, hg⟩ := h.out (cs := cs) (ys := xs) (by rw [hl, hc]; omega) (by simpa using hxs) (fun i f hi => hf i f (by simpa using hi))
  exact ⟨y, by simpa using hk, hg⟩⟩
theorem Opens.iso {t : TypeId} {d : Kd α} {G : α → Prop} (h : Opens P t d G) (f : β → α) (g : α → β) (hfg : ∀ x, f (g x) = x) : Opens P t (Kd.iso d f) (fun x => G (f x)) := ⟨fun hx => by
  obtain ⟨y, hk, hg⟩ := h.out hx
  exact ⟨g y, show d.K _ (f (g y)) _ by rw [hfg]; exact hk, show G (f (g y)) by rw [hfg]; exact hg⟩⟩
theorem Opens.imp {t : TypeId} {d : Kd α} {G G' : α → Prop} (h : Opens P t d G) (hg : ∀ x, G x → G' x) : Opens P t d G' := ⟨fun hx => by
  obtain ⟨y, hk, h1⟩ := h.out hx
  exact ⟨y, hk, hg y h1⟩⟩
/-- An argument that is a slice. -/
theorem open_slice {t e : TypeId} {d : Kd α} {G : α → Prop} {H : Type} {enc : TypeId × Value → H} {W : World} {base b0 : Nat} {spare : Nat → Bool} {held : Bool} {r : Reach} {v : Value} {dd : DataW H} {ps : List MemPlace}
    (ht : P.underlying t = some (.slice e)) (hc : P.cellsOf e = d.sz) (h : Opens P e d G) (hval : Value.okWide P W r b0 t v) (hd : DataW.Trod enc P W base spare held t v dd ps) :
    ∃ (A : Option Addr) (c : Nat) (xs : List α), v = .slice A xs.length c ∧ xs.length ≤ c ∧ d.C W A xs.length xs ∧ ∀ x ∈ xs, G x := by
  obtain ⟨A, n, c, rfl⟩ := WideShapes.okWide_slice ht hval
  obtain ⟨fuel, hf⟩ := hd
  obtain ⟨xs, ⟨A', c', hcs, hl, hC⟩, hG⟩ := (Opens.slice 0 ht hc h).out hf
  simp only [Value.cells, List.cons.injEq, and_true, Value.slice.injEq] at hcs
  obtain ⟨rfl, rfl, rfl⟩ := hcs
  exact ⟨A, c, xs, rfl, hl, hC, hG⟩
/-- An argument that is a struct. -/
theorem open_struct {t : TypeId} {fs : Array Field} {d : Kd α} {G : α → Prop} {H : Type} {enc : TypeId × Value → H} {W : World} {base b0 : Nat} {spare : Nat → Bool} {held : Bool} {r : Reach} {v : Value} {dd : DataW H} {ps : List MemPlace}
    (ht : P.underlying t = some (.struct fs)) (h : Opens P t d G) (hval : Value.okWide P W r b0 t v) (hd : DataW.Trod enc P W base spare held t v dd ps) :
    ∃ (x : α) (cs : List Value), v = .agg cs.toArray ∧ d.K W x cs ∧ G x := by
  unfold Value.okWide at hval
  rw [ht] at hval
  obtain ⟨cs, rfl, _⟩ := hval
  obtain ⟨fuel, hf⟩ := hd
  obtain ⟨x, hk, hG⟩ := h.out hf
  exact ⟨x, cs.toList, by simp, hk, hG⟩
end

/-! ### bytes -/
/-- Byte i of a number's eight. -/
def byteN (n : Int) (i : Nat) : Int := IntKind.u64.wrap n / 2 ^ (8 * (7 - i)) % 256
def bytes8 (n : Int) (i : Nat) : List Int := (List.range i).map (byteN n)
theorem fold_byteN (n : Int) (i : Nat) : IntKind.u64.wrap n / 2 ^ (8 * (7 - i)) % 256 = byteN n i := rfl
theorem bytes8_succ (n : Int) (k : Nat) : bytes8 n (k + 1) = bytes8 n k ++ [byteN n k] := by simp [bytes8, List.range_succ]
theorem bytes8_length (n : Int) (k : Nat) : (bytes8 n k).length = k := by simp [bytes8]
/-- A byte read behind a number's first ones. -/
def accB (n x : Int) : Int := bits BinOp.or .u64 (IntKind.u64.wrap (n * 256)) (IntKind.u64.wrap x)
theorem fold_accB (n x : Int) : bits BinOp.or .u64 (IntKind.u64.wrap (n * 256)) (IntKind.u64.wrap x) = accB n x := rfl
def dec8 (l : List Int) : Int := wrap64 (l.foldl accB 0)
theorem u64_wrap (n : Int) : IntKind.u64.wrap n = n % 18446744073709551616 := by
  simp [IntKind.wrap, IntKind.bits, IntKind.signed]
theorem accB_eq (n x : Int) (h0 : 0 ≤ n) (h1 : n < 72057594037927936) (h2 : 0 ≤ x) (h3 : x < 256) : accB n x = n * 256 + x := by
  unfold accB
  rw [u64_wrap, u64_wrap, show n * 256 % 18446744073709551616 = n * 256 from by omega, show x % 18446744073709551616 = x from by omega]
  refine bits_join .u64 64 (by decide) (fun m a b => ?_) 8 _ _ (by omega) (by omega) (by omega) h2 (by omega) (by omega)
  rw [u64_wrap]
  omega
theorem byteN_range (n : Int) (i : Nat) : 0 ≤ byteN n i ∧ byteN n i < 256 := by unfold byteN; omega
theorem dec8_bytes8 (n : Int) (h0 : -9223372036854775808 ≤ n) (h1 : n ≤ 9223372036854775807) : dec8 (bytes8 n 8) = n := by
  obtain ⟨u, hu⟩ : ∃ u, u = IntKind.u64.wrap n := ⟨_, rfl⟩
  have hu' : u = n % 18446744073709551616 := by rw [hu, u64_wrap]
  have e : bytes8 n 8 = [u / 72057594037927936 % 256, u / 281474976710656 % 256, u / 1099511627776 % 256, u / 4294967296 % 256, u / 16777216 % 256, u / 65536 % 256, u / 256 % 256, u / 1 % 256] := by
    simp [bytes8, byteN, List.range_succ, ← hu]
  unfold dec8
  rw [e]
  simp only [List.foldl_cons, List.foldl_nil]
  rw [accB_eq 0 _ (by omega) (by omega) (by omega) (by omega)]
  rw [accB_eq _ (u / 281474976710656 % 256) (by omega) (by omega) (by omega) (by omega)]
  rw [accB_eq _ (u / 1099511627776 % 256) (by omega) (by omega) (by omega) (by omega)]
  rw [accB_eq _ (u / 4294967296 % 256) (by omega) (by omega) (by omega) (by omega)]
  rw [accB_eq _ (u / 16777216 % 256) (by omega) (by omega) (by omega) (by omega)]
  rw [accB_eq _ (u / 65536 % 256) (by omega) (by omega) (by omega) (by omega)]
  rw [accB_eq _ (u / 256 % 256) (by omega) (by omega) (by omega) (by omega)]
  rw [accB_eq _ (u / 1 % 256) (by omega) (by omega) (by omega) (by omega)]
  unfold wrap64
  omega
theorem rd_at (l : List Int) (k : Nat) (h : k < l.length) : rd l (k : Int) = l[k] := by simp [rd, List.getD_eq_getElem?_getD, h]
theorem nums_at (k : IntKind) (l : List Int) (i : Nat) (h : i < l.length) : (nums k l)[i]? = some (.int k l[i]) := by simp [nums, h]
/-- A slice's cell, as the walk asks for it behind a cut. -/
theorem cut_cell {w : World} {ad : Addr} {k : IntKind} {l : List Int} (h : ∀ j v, (nums k l)[j]? = some v → w.cell? (ad.add j) = some v) (p i : Nat) (hi : p + i < l.length) : w.cell? ((ad.add p).add i) = some (.int k (l[p + i]'hi)) := by
  rw [add_add']
  exact h _ _ (nums_at k l _ hi)
theorem take_one_more {α : Type} (l : List α) (p k : Nat) (h : p + k < l.length) : (l.drop p).take (k + 1) = (l.drop p).take k ++ [l[p + k]] := by
  rw [List.take_succ_eq_append_getElem (by rw [List.length_drop]; omega), List.getElem_drop]
theorem replicate_drop1 (n : Nat) (v : Value) (xs : List Value) (m : Nat) (h : m = xs.length + 1) : (xs ++ List.replicate (n + 1) v).drop m = List.replicate n v := by
  subst h
  rw [List.drop_append]
  simp [List.replicate_succ]
end Go.Proofs.Ytckjgfbfjjiikaa.U
