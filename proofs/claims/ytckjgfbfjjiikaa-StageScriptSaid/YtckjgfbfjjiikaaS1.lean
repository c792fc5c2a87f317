/- Maps with a key of two numbers: looked up, an entry laid, a value stored, an entry taken out. -/
import Derived.Test.YtckjgfbfjjiikaaKR
import Derived.Test.YtckjgfbfjjiikaaCh
import Derived.Maps.RangeRun
set_option linter.unusedVariables false
set_option linter.unusedSimpArgs false
namespace Go.Proofs.Ytckjgfbfjjiikaa.K
open Go.RowKit Go.Proofs.YtckjgfbfjjiikaaW.PrintWords Go.Proofs.YtckjgfbfjjiikaaW.PrintLast Go.Proofs.YtckjgfbfjjiikaaW.PrintMore Go.Proofs.Ytckjgfbfjjiikaa.U Go.Proofs.Ytckjgfbfjjiikaa.T
open Go.ChangeMaps (setBlock)

/-- A key; an entry's key is (a, b). -/
def keyV (a b : Int) : Value := .agg #[.int .i64 a, .int .i64 b]
theorem eqA_key (d : Nat) (w : World) (a b c e : Int) :
    (Op.equalIn (d + 2) 85 (.agg #[.int .i64 a, .int .i64 b]) (.agg #[.int .i64 c, .int .i64 e])).run Try.prog w = .ok (a == c && b == e) w := by
  refine eqA_of Try.underlying85 (by kernel_rfl) ?_
  refine eqf_cons (by rfl) (by go_simp; rfl) (by go_simp; rfl) (by go_simp) ?_
  exact eqf_last (by rfl) (by go_simp; rfl) (by go_simp; rfl) (by go_simp)
/-- An entry as data: its key, its value, its stamp. -/
structure Ent where
  a : Int
  b : Int
  v : Value
  s : Nat
def Ent.me (e : Ent) : MapEntry := ⟨keyV e.a e.b, e.v, e.s⟩
def Ent.at_ (a b : Int) (e : Ent) : Bool := a == e.a && b == e.b
def findAt (a b : Int) : List Ent → Nat → Option (Nat × Value)
  | [], _ => none
  | e :: es, i => if e.at_ a b then some (i, e.v) else findAt a b es (i + 1)
set_option maxRecDepth 100000 in
theorem findAsking_run (w : World) (a b : Int) (L : List Ent) (i : Nat) :
    (Instr.findAsking 85 (keyV a b) (L.map Ent.me) i).run Try.prog w = .ok (findAt a b L i) w := by
  induction L generalizing i with
  | nil => rfl
  | cons e es ih =>
    have h : (Op.equal 85 (keyV a b) (Ent.me e).key).run Try.prog w = .ok (e.at_ a b) w := eqA_key _ w a b e.a e.b
    rw [List.map_cons]
    unfold Instr.findAsking findAt
    simp only [Sem.run_bind, h, Result.andThen_ok]
    cases e.at_ a b
    · simpa using ih (i + 1)
    · rfl
set_option maxRecDepth 100000 in
theorem findKey_run (w : World) (a b : Int) (L : List Ent) :
    (Instr.findKey 85 (keyV a b) (L.map Ent.me)).run Try.prog w = .ok (findAt a b L 0) w := by
  unfold Instr.findKey
  simp only [Sem.run_bind, run_underlying Try.underlying85, Result.andThen_ok]
  cases L with
  | nil => rfl
  | cons e es =>
    have h := findAsking_run w a b (e :: es) 0
    simpa [Instr.findNow, Instr.sameNow, keyV] using h
set_option maxRecDepth 100000 in
theorem checkKey_run (w : World) (em : Bool) (a b : Int) : (Instr.checkKey em 10000 85 (keyV a b)).run Try.prog w = .ok () w := by
  cases em <;> rfl
theorem keyStays_run (w : World) (a b : Int) : (Instr.keyThatStays (keyV a b) (keyV a b)).run Try.prog w = .ok (keyV a b) w := by
  have h : Instr.sameBits 10000 (keyV a b) (keyV a b) = true := by simp [Instr.sameBits, keyV]
  simp only [Instr.keyThatStays, h, if_true]
  rfl
/-- Where a key stands, if it stands. -/
theorem findAt_split (a b : Int) (L : List Ent) (i : Nat) : (findAt a b L i = none ∧ ∀ e ∈ L, ¬ (e.a = a ∧ e.b = b)) ∨ ∃ A v s B, L = A ++ ⟨a, b, v, s⟩ :: B ∧ (∀ e ∈ A, ¬ (e.a = a ∧ e.b = b)) ∧ findAt a b L i = some (i + A.length, v) := by
  induction L generalizing i with
  | nil => exact .inl ⟨rfl, by simp⟩
  | cons e es ih =>
    by_cases hc : e.at_ a b = true
    · have hc' : a = e.a ∧ b = e.b := by simpa [Ent.at_] using hc
      obtain ⟨rfl, rfl⟩ := hc'
      exact .inr ⟨[], e.v, e.s, es, rfl, by simp, by unfold findAt; rw [if_pos hc]; rfl⟩
    · have hn : ¬ (e.a = a ∧ e.b = b) := by rintro ⟨rfl, rfl⟩; exact hc (by simp [Ent.at_])
      have hu : findAt a b (e :: es) i = findAt a b es (i + 1) := by rw [findAt, if_neg hc]
      rw [hu]
      rcases ih (i + 1) with ⟨h1, h2⟩ | ⟨A, v, s, B, h1, h2, h3⟩
      · exact .inl ⟨h1, fun x hx => by rcases List.mem_cons.1 hx with rfl | hx; exact hn; exact h2 x hx⟩
      · refine .inr ⟨e :: A, v, s, B, by rw [h1]; rfl, fun x hx => by rcases List.mem_cons.1 hx with rfl | hx; exact hn; exact h2 x hx, ?_⟩
        rw [h3, List.length_cons, Nat.add_assoc, Nat.add_comm 1]
theorem findAt_mid (a b : Int) (A : List Ent) (v : Value) (s : Nat) (B : List Ent) (i : Nat) (hA : ∀ e ∈ A, ¬ (e.a = a ∧ e.b = b)) : findAt a b (A ++ ⟨a, b, v, s⟩ :: B) i = some (i + A.length, v) := by
  induction A generalizing i with
  | nil => simp [findAt, Ent.at_]
  | cons e es ih =>
    have hc : ¬ e.at_ a b = true := fun h => by
      have h2 : a = e.a ∧ b = e.b := by simpa [Ent.at_] using h
      exact hA e (List.mem_cons_self ..) ⟨h2.1.symm, h2.2.symm⟩
    rw [List.cons_append, findAt, if_neg hc, ih (i + 1) (fun x hx => hA x (List.mem_cons_of_mem _ hx)), List.length_cons, Nat.add_assoc, Nat.add_comm 1]
theorem findAt_no (a b : Int) (L : List Ent) (i : Nat) (h : ∀ e ∈ L, ¬ (e.a = a ∧ e.b = b)) : findAt a b L i = none := by
  rcases findAt_split a b L i with ⟨h1, _⟩ | ⟨A, v, s, B, h1, _, _⟩
  · exact h1
  · exact absurd ⟨rfl, rfl⟩ (h ⟨a, b, v, s⟩ (by rw [h1]; simp))
/-- The map in block r: these entries. -/
def MapIs (w : World) (r : Nat) (L : List Ent) (clock : Nat) : Prop := w.heap[r]? = some (.map (L.map Ent.me).toArray clock)
def mapO (L : List Ent) (clock : Nat) : Obj := .map (L.map Ent.me).toArray clock
theorem getElem_mid (A : List Ent) (e : Ent) (B : List Ent) : ((A ++ e :: B).map Ent.me).toArray[A.length]? = some e.me := by simp
theorem modify_mid (A : List Ent) (e e' : Ent) (B : List Ent) (f : MapEntry → MapEntry) (hf : f e.me = e'.me) : ((A ++ e :: B).map Ent.me).toArray.modify A.length f = ((A ++ e' :: B).map Ent.me).toArray := by
  apply Array.toList_inj.1
  rw [Array.toList_modify]
  induction A with
  | nil => simp [List.modify, hf]
  | cons x xs ih => simpa [List.modify] using ih
theorem erase_mid (A : List Ent) (e : Ent) (B : List Ent) : ((A ++ e :: B).map Ent.me).toArray.eraseIdxIfInBounds A.length = ((A ++ B).map Ent.me).toArray := by
  apply Array.toList_inj.1
  unfold Array.eraseIdxIfInBounds
  rw [dif_pos (by simp)]
  simp [List.eraseIdx_append_of_length_le]
theorem setObj_run {w : World} {r : Nat} {L : List Ent} {clock : Nat} (h : MapIs w r L clock) (L' : List Ent) (c' : Nat) : (setObj r (mapO L' c')).run Try.prog w = .ok () (setBlock w r (mapO L' c')) := by
  unfold MapIs at h
  simp [setObj, Sem.run, h, setBlock, mapO]
theorem MapIs.put {w : World} {r : Nat} {L : List Ent} {clock : Nat} (h : MapIs w r L clock) (L' : List Ent) (c' : Nat) : MapIs (setBlock w r (mapO L' c')) r L' c' := Go.ChangeMaps.heap_setBlock_same h _
theorem ch_setBlock {w : World} {r : Nat} {L : List Ent} {clock : Nat} {o' : Obj} (h : MapIs w r L clock) : Ch w (setBlock w r o') (fun k => k = r) := ⟨rfl, rfl, rfl, by simp [setBlock], fun k _ hk => Go.ChangeMaps.heap_setBlock_other h _ hk⟩
theorem MapIs.ch {w w' : World} {r : Nat} {L : List Ent} {clock : Nat} {S : Nat → Prop} (h : MapIs w r L clock) (hc : Ch w w' S) (hS : ¬ S r) : MapIs w' r L clock := hc.blk h hS
def nilS : Value := .slice none 0 0
set_option maxRecDepth 100000 in
theorem zero_run (w : World) : (zeroValue 22).run Try.prog w = .ok nilS w := by rfl
theorem lookup_run {w : World} {r : Nat} {L : List Ent} {clock : Nat} (h : MapIs w r L clock) (a b : Int) :
    (Instr.lookup 81 (.map (some r)) (keyV a b) false).run Try.prog w = .ok (((findAt a b L 0).map (·.2)).getD nilS) w := by
  have hk := findKey_run w a b L
  unfold MapIs at h
  simp only [Instr.lookup, Sem.run_bind, run_underlying Try.underlying81, Result.andThen_ok, getObj, Sem.run, h, checkKey_run]
  simp only [Sem.run_pure, Result.andThen_ok, hk]
  cases findAt a b L 0 with
  | none => simp only [Sem.run_bind, zero_run, Result.andThen_ok]; rfl
  | some p => rfl
theorem entry_new_run {w : World} {r : Nat} {L : List Ent} {clock : Nat} (h : MapIs w r L clock) (a b : Int) (hf : ∀ e ∈ L, ¬ (e.a = a ∧ e.b = b)) :
    (Instr.mapEntry 81 (.map (some r)) (keyV a b)).run Try.prog w = .ok (.tuple #[nilS, .int .i64 clock]) (setBlock w r (mapO (L ++ [⟨a, b, nilS, clock⟩]) (clock + 1))) := by
  have hk := findKey_run w a b L
  have hs := setObj_run h (L ++ [⟨a, b, nilS, clock⟩]) (clock + 1)
  have e1 : ((L.map Ent.me).toArray.push ({ key := keyV a b, val := nilS, born := clock } : MapEntry)) = ((L ++ [(⟨a, b, nilS, clock⟩ : Ent)]).map Ent.me).toArray := by simp [Ent.me]
  rw [findAt_no a b L 0 hf] at hk
  unfold MapIs at h
  simp only [Instr.mapEntry, Sem.run_bind, run_underlying Try.underlying81, Result.andThen_ok, getObj, Sem.run, h, checkKey_run]
  simp only [hk, Sem.run_bind, zero_run, Result.andThen_ok, e1]
  unfold mapO at hs
  simp only [hs, Result.andThen_ok]
  rfl
theorem entry_old_run {w : World} {r : Nat} {A B : List Ent} {a b : Int} {v : Value} {s clock : Nat} (h : MapIs w r (A ++ ⟨a, b, v, s⟩ :: B) clock) (hA : ∀ e ∈ A, ¬ (e.a = a ∧ e.b = b)) :
    (Instr.mapEntry 81 (.map (some r)) (keyV a b)).run Try.prog w = .ok (.tuple #[v, .int .i64 s]) (setBlock w r (mapO (A ++ ⟨a, b, v, s⟩ :: B) clock)) := by
  have hk := findKey_run w a b (A ++ ⟨a, b, v, s⟩ :: B)
  have hs := setObj_run h (A ++ ⟨a, b, v, s⟩ :: B) clock
  rw [findAt_mid a b A v s B 0 hA, Nat.zero_add] at hk
  have e0 := getElem_mid A ⟨a, b, v, s⟩ B
  have e1 := modify_mid A ⟨a, b, v, s⟩ ⟨a, b, v, s⟩ B (fun e => { e with key := keyV a b }) rfl
  unfold MapIs at h
  simp only [Instr.mapEntry, Sem.run_bind, run_underlying Try.underlying81, Result.andThen_ok, getObj, Sem.run, h, checkKey_run]
  simp only [hk, Result.andThen_ok]
  have e2 : (keyV a b) = (Ent.me ⟨a, b, v, s⟩).key := rfl
  simp only [e0, Option.map_some, Option.getD_some]
  rw [← e2]
  simp only [Sem.run_bind, keyStays_run, Result.andThen_ok, e1]
  unfold mapO at hs
  simp only [hs, Result.andThen_ok]
  rfl
theorem store_run {w : World} {r : Nat} {A B : List Ent} {a b : Int} {v : Value} {s clock : Nat} (h : MapIs w r (A ++ ⟨a, b, v, s⟩ :: B) clock) (hA : ∀ e ∈ A, e.s ≠ s) (x : Value) :
    (Instr.entryStore 81 (.map (some r)) (.int .i64 s) x).run Try.prog w = .ok () (setBlock w r (mapO (A ++ ⟨a, b, x, s⟩ :: B) clock)) := by
  have hs := setObj_run h (A ++ ⟨a, b, x, s⟩ :: B) clock
  have e1 := modify_mid A ⟨a, b, v, s⟩ ⟨a, b, x, s⟩ B (fun e => { e with val := x }) rfl
  have hf : ((A ++ ⟨a, b, v, s⟩ :: B).map Ent.me).toArray.findIdx? (fun e => (e.born : Int) == (s : Int)) = some A.length := by
    rw [List.findIdx?_toArray, List.findIdx?_eq_some_iff_getElem]
    refine ⟨by simp, by simp [Ent.me], fun j hj => ?_⟩
    have := hA (A[j]) (List.getElem_mem ..)
    simp [List.getElem_append_left, hj, Ent.me]
    omega
  unfold MapIs at h
  have ha : (asInt (.int .i64 (s : Int))).run Try.prog w = .ok (s : Int) w := rfl
  simp only [Instr.entryStore, Sem.run_bind, getObj, Sem.run, h, Result.andThen_ok, ha]
  simp only [hf, e1]
  unfold mapO at hs
  simp only [hs]
  rfl
theorem delete_run {w : World} {r : Nat} {A B : List Ent} {a b : Int} {v : Value} {s clock : Nat} (h : MapIs w r (A ++ ⟨a, b, v, s⟩ :: B) clock) (hA : ∀ e ∈ A, ¬ (e.a = a ∧ e.b = b)) (ts : Array TypeId) (hts : ts[0]? = some 81) (ty : TypeId) :
    (Builtin.delete_ ts ty #[.map (some r), keyV a b]).run Try.prog w = .ok (.tuple #[]) (setBlock w r (mapO (A ++ B) clock)) := by
  have hk := findKey_run w a b (A ++ ⟨a, b, v, s⟩ :: B)
  have hs := setObj_run h (A ++ B) clock
  rw [findAt_mid a b A v s B 0 hA, Nat.zero_add] at hk
  have e1 := erase_mid A ⟨a, b, v, s⟩ B
  unfold MapIs at h
  have ha0 : (#[Value.map (some r), keyV a b] : Array Value)[0]? = some (.map (some r)) := rfl
  have ha1 : (#[Value.map (some r), keyV a b] : Array Value)[1]? = some (keyV a b) := rfl
  simp only [Builtin.delete_, hts, ha0, ha1, Sem.run_bind, run_underlying Try.underlying81, Result.andThen_ok, getObj, Sem.run, h, checkKey_run]
  simp only [Sem.run_pure, Result.andThen_ok, hk, e1]
  unfold mapO at hs
  simp only [Sem.run_bind, hs, Result.andThen_ok, Sem.run_pure]
  rfl
theorem len_run {w : World} {r : Nat} {L : List Ent} {clock : Nat} (h : MapIs w r L clock) (ts : Array TypeId) (hts : ts[0]? = some 81) (ty : TypeId) :
    (Builtin.len_ ts ty #[.map (some r)]).run Try.prog w = .ok (.int .i64 L.length) w := by
  unfold MapIs at h
  have ha0 : (#[Value.map (some r)] : Array Value)[0]? = some (.map (some r)) := rfl
  simp only [Builtin.len_, hts, ha0, Sem.run_bind, run_underlying Try.underlying81, Result.andThen_ok, getObj, Sem.run, h]
  have e : (L.map Ent.me).toArray.size = L.length := by simp
  rw [← e]
  rfl
end Go.Proofs.Ytckjgfbfjjiikaa.K
