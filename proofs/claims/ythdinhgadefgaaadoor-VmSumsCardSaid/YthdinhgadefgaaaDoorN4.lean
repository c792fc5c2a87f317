/- Maps with a number as the key: looked up, an entry laid. -/
import Derived.Test.YthdinhgadefgaaaDoorN3
import Derived.Maps.RangeRun
set_option linter.unusedVariables false
set_option linter.unusedSimpArgs false
set_option maxRecDepth 100000
namespace Go.Proofs.YthdinhgadefgaaaDoor.K
open Go.RowKit Go.Proofs.YthdinhgadefgaaaDoorW.PrintWords Go.Proofs.YthdinhgadefgaaaDoorW.PrintLast Go.Proofs.YthdinhgadefgaaaDoorW.PrintMore Go.Proofs.YthdinhgadefgaaaDoor.U Go.Proofs.YthdinhgadefgaaaDoor.T
open Go.ChangeMaps (setBlock)

structure EntN where
  n : Int
  v : Value
  s : Nat
def EntN.me (e : EntN) : MapEntry := ⟨.int .i64 e.n, e.v, e.s⟩
def findN (n : Int) : List EntN → Nat → Option (Nat × Value)
  | [], _ => none
  | e :: es, i => if n == e.n then some (i, e.v) else findN n es (i + 1)
theorem findNow_eq (n : Int) (L : List EntN) (i : Nat) : Instr.findNow (.int .i64) (.int .i64 n) (L.map EntN.me) i = some (findN n L i) := by
  induction L generalizing i with
  | nil => rfl
  | cons e es ih =>
    rw [List.map_cons]
    unfold Instr.findNow findN
    have h : Instr.sameNow (.int .i64) (.int .i64 n) (EntN.me e).key = some (n == e.n) := by simp [Instr.sameNow, EntN.me]
    rw [h]
    cases n == e.n
    · simpa using ih (i + 1)
    · rfl
theorem findN_run (w : World) (n : Int) (L : List EntN) : (Instr.findKey 2 (.int .i64 n) (L.map EntN.me)).run Tryd.prog w = .ok (findN n L 0) w := by
  unfold Instr.findKey
  simp only [Sem.run_bind, run_underlying Tryd.underlying2, Result.andThen_ok, findNow_eq]
  rfl
theorem findN_split (n : Int) (L : List EntN) (i : Nat) : (findN n L i = none ∧ ∀ e ∈ L, e.n ≠ n) ∨ ∃ e ∈ L, ∃ j, e.n = n ∧ findN n L i = some (j, e.v) := by
  induction L generalizing i with
  | nil => exact .inl ⟨rfl, by simp⟩
  | cons e es ih =>
    by_cases hc : n = e.n
    · exact .inr ⟨e, List.mem_cons_self .., i, hc.symm, by rw [findN, if_pos (by simpa using hc)]⟩
    · have hu : findN n (e :: es) i = findN n es (i + 1) := by rw [findN, if_neg (by simpa using hc)]
      rw [hu]
      rcases ih (i + 1) with ⟨h1, h2⟩ | ⟨x, hx, j, h1, h2⟩
      · exact .inl ⟨h1, fun x hx => by rcases List.mem_cons.1 hx with rfl | hx; exact fun h => hc h.symm; exact h2 x hx⟩
      · exact .inr ⟨x, List.mem_cons_of_mem _ hx, j, h1, h2⟩
def MapN (w : World) (r : Nat) (L : List EntN) (clock : Nat) : Prop := w.heap[r]? = some (.map (L.map EntN.me).toArray clock)
def mapNO (L : List EntN) (clock : Nat) : Obj := .map (L.map EntN.me).toArray clock
theorem setObjN_run {w : World} {r : Nat} {L : List EntN} {clock : Nat} (h : MapN w r L clock) (L' : List EntN) (c' : Nat) : (setObj r (mapNO L' c')).run Tryd.prog w = .ok () (setBlock w r (mapNO L' c')) := by
  unfold MapN at h
  simp [setObj, Sem.run, h, setBlock, mapNO]
theorem MapN.put {w : World} {r : Nat} {L : List EntN} {clock : Nat} (h : MapN w r L clock) (L' : List EntN) (c' : Nat) : MapN (setBlock w r (mapNO L' c')) r L' c' := Go.ChangeMaps.heap_setBlock_same h _
theorem ch_setN {w : World} {r : Nat} {L : List EntN} {clock : Nat} {o' : Obj} (h : MapN w r L clock) : Ch w (setBlock w r o') (fun k => k = r) := ⟨rfl, rfl, rfl, by simp [setBlock], fun k _ hk => Go.ChangeMaps.heap_setBlock_other h _ hk⟩
theorem MapN.ch {w w' : World} {r : Nat} {L : List EntN} {clock : Nat} {S : Nat → Prop} (h : MapN w r L clock) (hc : Ch w w' S) (hS : ¬ S r) : MapN w' r L clock := hc.blk h hS
theorem zeroN_run (w : World) : (zeroValue 112).run Tryd.prog w = .ok (.pointer none) w := by rfl
theorem checkN_run (w : World) (em : Bool) (n : Int) : (Instr.checkKey em 10000 2 (.int .i64 n)).run Tryd.prog w = .ok () w := by
  cases em <;> rfl
theorem lookN_run {w : World} {r : Nat} {L : List EntN} {clock : Nat} (h : MapN w r L clock) (n : Int) :
    (Instr.lookup 74 (.map (some r)) (.int .i64 n) false).run Tryd.prog w = .ok (((findN n L 0).map (·.2)).getD (.pointer none)) w := by
  have hk := findN_run w n L
  unfold MapN at h
  simp only [Instr.lookup, Sem.run_bind, run_underlying Tryd.underlying74, Result.andThen_ok, getObj, Sem.run, h, checkN_run]
  simp only [Sem.run_pure, Result.andThen_ok, hk]
  cases findN n L 0 with
  | none => simp only [Sem.run_bind, zeroN_run, Result.andThen_ok]; rfl
  | some p => rfl
theorem updN_run {w : World} {r : Nat} {L : List EntN} {clock : Nat} (h : MapN w r L clock) (n : Int) (v : Value) (hf : findN n L 0 = none) :
    (Instr.mapUpdate 74 (.map (some r)) (.int .i64 n) v).run Tryd.prog w = .ok () (setBlock w r (mapNO (L ++ [⟨n, v, clock⟩]) (clock + 1))) := by
  have hk := findN_run w n L
  have hs := setObjN_run h (L ++ [⟨n, v, clock⟩]) (clock + 1)
  have e1 : ((L.map EntN.me).toArray.push ({ key := .int .i64 n, val := v, born := clock } : MapEntry)) = ((L ++ [(⟨n, v, clock⟩ : EntN)]).map EntN.me).toArray := by simp [EntN.me]
  rw [hf] at hk
  unfold MapN at h
  simp only [Instr.mapUpdate, Sem.run_bind, run_underlying Tryd.underlying74, Result.andThen_ok, getObj, Sem.run, h, checkN_run]
  simp only [hk, Sem.run_bind, Result.andThen_ok, e1]
  unfold mapNO at hs
  simp only [hs, Result.andThen_ok]
  rfl
end Go.Proofs.YthdinhgadefgaaaDoor.K
