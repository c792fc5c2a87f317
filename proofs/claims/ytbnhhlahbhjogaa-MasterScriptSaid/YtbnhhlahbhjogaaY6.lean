/- The master: what it holds. -/
import Derived.Test.YtbnhhlahbhjogaaY5
set_option linter.unusedVariables false
set_option linter.unusedSimpArgs false
set_option maxRecDepth 100000
namespace Go.Proofs.Ytbnhhlahbhjogaa.K
open Go.RowKit Go.Proofs.YtbnhhlahbhjogaaW.PrintWords Go.Proofs.YtbnhhlahbhjogaaW.PrintLast Go.Proofs.YtbnhhlahbhjogaaW.PrintMore Go.Proofs.Ytbnhhlahbhjogaa.U Go.Proofs.Ytbnhhlahbhjogaa.T

/-- Where a configuration's rows stand. -/
structure CfH where
  A1 : Option Addr
  A2 : Option Addr
  A3 : Option Addr
  A4 : Option Addr
  A5 : Option Addr
  c1 : Nat
  c2 : Nat
  c3 : Nat
  c4 : Nat
  c5 : Nat
abbrev cfg12 (c : CfgD) (h : CfH) : List Value := [.slice h.A1 c.job.splits.length h.c1, .int .i64 c.job.parts, .slice h.A2 c.job.map.length h.c2, .slice h.A3 c.job.combine.length h.c3, .slice h.A4 c.job.reduce.length h.c4, .int .i64 c.job.chunk, .int .i64 c.job.window, .int .i64 c.job.fuel, .slice h.A5 c.job.marks.length h.c5, .int .i64 c.workers, .int .i64 c.tries, .int .i64 c.timeout]
def JobH (w : World) (j : JobD) (h : CfH) : Prop := JobC w j h.A1 h.A2 h.A3 h.A4 h.A5 h.c1 h.c2 h.c3 h.c4 h.c5
/-- A job's rows, in blocks of one's own. -/
structure JobR (w : World) (j : JobD) (h : CfH) (ok : Nat → Prop) : Prop where
  s : Kd.R kRows 43 w 0 ok (.slice h.A1 j.splits.length h.c1) j.splits
  m : Kd.R kIns 115 w 0 ok (.slice h.A2 j.map.length h.c2) j.map
  c : Kd.R kIns 115 w 0 ok (.slice h.A3 j.combine.length h.c3) j.combine
  r : Kd.R kIns 115 w 0 ok (.slice h.A4 j.reduce.length h.c4) j.reduce
  k : Kd.R kI 3 w 0 ok (.slice h.A5 j.marks.length h.c5) j.marks
theorem JobR.reads {w : World} {j : JobD} {h : CfH} {ok : Nat → Prop} (hj : JobR w j h ok) : JobH w j h := by
  obtain ⟨_, l1, h1⟩ := Kd.R_reads' hj.s
  obtain ⟨_, l2, h2⟩ := Kd.R_reads' hj.m
  obtain ⟨_, l3, h3⟩ := Kd.R_reads' hj.c
  obtain ⟨_, l4, h4⟩ := Kd.R_reads' hj.r
  obtain ⟨_, l5, h5⟩ := Kd.R_reads' hj.k
  exact ⟨h1, h2, h3, h4, h5, l1, l2, l3, l4, l5⟩
theorem JobR.step {w w' : World} {j : JobD} {h : CfH} {ok : Nat → Prop} (hj : JobR w j h ok) (hm : ∀ k, ok k → k < w.heap.size → w'.heap[k]? = w.heap[k]?) : JobR w' j h ok :=
  ⟨Kd.R_step hj.s hm, Kd.R_step hj.m hm, Kd.R_step hj.c hm, Kd.R_step hj.r hm, Kd.R_step hj.k hm⟩
theorem JobR.mono {w : World} {j : JobD} {h : CfH} {ok ok' : Nat → Prop} (hj : JobR w j h ok) (hm : ∀ k, ok k → ok' k) : JobR w j h ok' :=
  ⟨Kd.R_mono hj.s hm, Kd.R_mono hj.m hm, Kd.R_mono hj.c hm, Kd.R_mono hj.r hm, Kd.R_mono hj.k hm⟩
theorem JobH.below {w w' : World} {j : JobD} {h : CfH} (hj : JobH w j h) (hb : Below w.heap.size w w') : JobH w' j h := JobC.below hj hb

/-- What a master knows of a split. -/
structure SpS where
  asked : Int
  tr : Int
  at_ : Int
  won : Bool
  att : Int
  counts : List Int
def zeroS : SpS := ⟨0, 0, 0, false, 0, []⟩
structure SpV where
  s : SpS
  cv : Value
abbrev rawS (z : SpV) : List Value := [.int .i64 z.s.asked, .int .i64 z.s.tr, .int .i64 z.s.at_, .bool z.s.won, .int .i64 z.s.att, z.cv]
def spCells (zs : List SpV) : List Value := (zs.map rawS).flatten
/-- What a master is, but for its configuration. -/
structure MaS where
  now : Int
  sp : List SpS
  rd : List Bool
  st : Int
  why : Int
  round : Int
abbrev maCells (c : CfgD) (h : CfH) (gS gT : Nat) (m : MaS) : List Value := [.slice h.A1 c.job.splits.length h.c1, .int .i64 c.job.parts, .slice h.A2 c.job.map.length h.c2, .slice h.A3 c.job.combine.length h.c3, .slice h.A4 c.job.reduce.length h.c4, .int .i64 c.job.chunk, .int .i64 c.job.window, .int .i64 c.job.fuel, .slice h.A5 c.job.marks.length h.c5, .int .i64 c.workers, .int .i64 c.tries, .int .i64 c.timeout,
  .int .i64 m.now, .slice (some ⟨gS, 0, none⟩) c.job.splits.length c.job.splits.length, .bool (m.rd.getD 0 false), .bool (m.rd.getD 1 false), .bool (m.rd.getD 2 false), .bool (m.rd.getD 3 false), .int .i64 m.st, .int .i64 m.why, .int .i64 m.round, .pointer (some ⟨gT, 0, none⟩)]

theorem flat_len (L : List (List Value)) (n : Nat) (hL : ∀ r ∈ L, r.length = n) : L.flatten.length = L.length * n := by
  induction L with
  | nil => simp
  | cons x xs ih =>
    rw [List.flatten_cons, List.length_append, ih (fun r hr => hL r (List.mem_cons_of_mem _ hr)), hL x (List.mem_cons_self ..), List.length_cons, Nat.succ_mul]
    omega
theorem flat_get (L : List (List Value)) (n : Nat) (hL : ∀ r ∈ L, r.length = n) (k j : Nat) (hk : k < L.length) (hj : j < n) : L.flatten[k * n + j]? = (L[k])[j]? := by
  induction L generalizing k with
  | nil => simp at hk
  | cons x xs ih =>
    have hx := hL x (List.mem_cons_self ..)
    cases k with
    | zero =>
      rw [List.flatten_cons, List.getElem?_append_left (by omega)]
      simp
    | succ k =>
      rw [List.flatten_cons, List.getElem?_append_right (by rw [hx, Nat.succ_mul]; omega), show (k + 1) * n + j - x.length = k * n + j from by rw [hx, Nat.succ_mul]; omega]
      rw [ih (fun r hr => hL r (List.mem_cons_of_mem _ hr)) k (by simpa using hk)]
      simp
theorem flat_set (L : List (List Value)) (n : Nat) (hL : ∀ r ∈ L, r.length = n) (k j : Nat) (hk : k < L.length) (hj : j < n) (v : Value) : L.flatten.set (k * n + j) v = (L.set k ((L[k]).set j v)).flatten := by
  induction L generalizing k with
  | nil => simp at hk
  | cons x xs ih =>
    have hx := hL x (List.mem_cons_self ..)
    cases k with
    | zero =>
      rw [List.flatten_cons, List.set_append_left _ _ (by omega)]
      simp
    | succ k =>
      rw [List.flatten_cons, List.set_append_right _ _ (by rw [hx, Nat.succ_mul]; omega), show (k + 1) * n + j - x.length = k * n + j from by rw [hx, Nat.succ_mul]; omega]
      rw [ih (fun r hr => hL r (List.mem_cons_of_mem _ hr)) k (by simpa using hk)]
      simp
theorem spCells_get (zs : List SpV) (k j : Nat) (hk : k < zs.length) (hj : j < 6) : (spCells zs)[k * 6 + j]? = (rawS zs[k])[j]? := by
  unfold spCells
  rw [flat_get _ 6 (by intro r hr; obtain ⟨z, _, rfl⟩ := List.mem_map.1 hr; rfl) k j (by rw [List.length_map]; exact hk) hj]
  simp
theorem spCells_set (zs : List SpV) (k j : Nat) (hk : k < zs.length) (hj : j < 6) (v : Value) (z' : SpV) (h : rawS z' = (rawS zs[k]).set j v) : (spCells zs).set (k * 6 + j) v = spCells (zs.set k z') := by
  unfold spCells
  rw [flat_set _ 6 (by intro r hr; obtain ⟨z, _, rfl⟩ := List.mem_map.1 hr; rfl) k j (by rw [List.length_map]; exact hk) hj]
  rw [List.map_set, h]
  simp

/-- A master stands at block gM, in F's blocks. -/
structure MaP (w : World) (gM gS gT : Nat) (F : Nat → Prop) (c : CfgD) (h : CfH) (zs : List SpV) (C : List Int) (ok : Nat → Prop) (m : MaS) : Prop where
  blk : w.heap[gM]? = some (.cells (maCells c h gS gT m).toArray 96 (0, 0))
  row : w.heap[gS]? = some (.cells (spCells zs).toArray 106 (0, 0))
  tal : TallyR 129 w 0 gT C
  sp : zs.map (·.s) = m.sp
  cfg : JobR w c.job h ok
  cnt : ∀ z ∈ zs, z.s.won = true → Kd.R kI 3 w 0 ok z.cv z.s.counts ∧ (z.s.counts.length : Int) = c.job.parts
  okF : ∀ k, ok k → F k ∧ k ≠ gM ∧ k ≠ gS ∧ k ≠ gT
  fM : F gM
  fS : F gS
  fT : F gT
  neS : gM ≠ gS
  neT : gM ≠ gT
  neU : gS ≠ gT
  flt : ∀ k, F k → k < w.heap.size
  len : m.sp.length = c.job.splits.length
  rd : m.rd.length = 4
  may : CfgMay c
def MaR (w : World) (gM : Nat) (F : Nat → Prop) (c : CfgD) (m : MaS) : Prop := ∃ gS gT h zs C ok, MaP w gM gS gT F c h zs C ok m
section
variable {w w' : World} {gM gS gT : Nat} {F S : Nat → Prop} {c : CfgD} {h : CfH} {zs : List SpV} {C : List Int} {ok : Nat → Prop} {m : MaS}
theorem MaP.ch (p : MaP w gM gS gT F c h zs C ok m) (hc : Ch w w' S) (hS : ∀ k, F k → ¬ S k) : MaP w' gM gS gT F c h zs C ok m where
  blk := hc.blk p.blk (hS _ p.fM)
  row := hc.blk p.row (hS _ p.fS)
  tal := p.tal.ch hc (hS _ p.fT)
  sp := p.sp
  cfg := p.cfg.step (fun k hk hlt => hc.block k hlt (hS k (p.okF k hk).1))
  cnt z hz hw := ⟨Kd.R_step (p.cnt z hz hw).1 (fun k hk hlt => hc.block k hlt (hS k (p.okF k hk).1)), (p.cnt z hz hw).2⟩
  okF := p.okF
  fM := p.fM
  fS := p.fS
  fT := p.fT
  neS := p.neS
  neT := p.neT
  neU := p.neU
  flt k hk := Nat.lt_of_lt_of_le (p.flt k hk) hc.size
  len := p.len
  rd := p.rd
  may := p.may
theorem MaP.below (p : MaP w gM gS gT F c h zs C ok m) (hb : Below w.heap.size w w') : MaP w' gM gS gT F c h zs C ok m := p.ch (Ch.of_below hb (fun _ => False)) (fun _ _ h => h)
theorem MaR.ch (p : MaR w gM F c m) (hc : Ch w w' S) (hS : ∀ k, F k → ¬ S k) : MaR w' gM F c m := by
  obtain ⟨gS, gT, h, zs, C, ok, p⟩ := p
  exact ⟨gS, gT, h, zs, C, ok, p.ch hc hS⟩
theorem MaR.below (p : MaR w gM F c m) (hb : Below w.heap.size w w') : MaR w' gM F c m := p.ch (Ch.of_below hb (fun _ => False)) (fun _ _ h => h)
theorem MaR.flt (p : MaR w gM F c m) : ∀ k, F k → k < w.heap.size := by
  obtain ⟨gS, gT, h, zs, C, ok, p⟩ := p
  exact p.flt
theorem MaP.zlen (p : MaP w gM gS gT F c h zs C ok m) : zs.length = c.job.splits.length := by
  rw [← p.len, ← p.sp, List.length_map]
theorem MaP.zget (p : MaP w gM gS gT F c h zs C ok m) (k : Nat) (hk : k < c.job.splits.length) : ∃ (hz : k < zs.length), (zs[k]).s = m.sp.getD k zeroS := by
  refine ⟨by rw [p.zlen]; exact hk, ?_⟩
  rw [← p.sp, List.getD_eq_getElem?_getD, List.getElem?_map, List.getElem?_eq_getElem (by rw [p.zlen]; exact hk)]
  rfl
theorem MaP.frM (p : MaP w gM gS gT F c h zs C ok m) (j : Nat) : w.frozen? ⟨gM, j, none⟩ = false := frozen_of_blk p.blk
theorem MaP.frS (p : MaP w gM gS gT F c h zs C ok m) (j : Nat) : w.frozen? ⟨gS, j, none⟩ = false := frozen_of_blk p.row
/-- A split's cells. -/
theorem MaP.split (p : MaP w gM gS gT F c h zs C ok m) (k : Nat) (hk : k < c.job.splits.length) : ∃ cv, (zs[k]'(by rw [p.zlen]; exact hk)) = ⟨m.sp.getD k zeroS, cv⟩ ∧
    w.cell? ⟨gS, k * 6, none⟩ = some (.int .i64 (m.sp.getD k zeroS).asked) ∧ w.cell? ⟨gS, k * 6 + 1, none⟩ = some (.int .i64 (m.sp.getD k zeroS).tr) ∧ w.cell? ⟨gS, k * 6 + 2, none⟩ = some (.int .i64 (m.sp.getD k zeroS).at_) ∧ w.cell? ⟨gS, k * 6 + 3, none⟩ = some (.bool (m.sp.getD k zeroS).won) ∧ w.cell? ⟨gS, k * 6 + 4, none⟩ = some (.int .i64 (m.sp.getD k zeroS).att) ∧ w.cell? ⟨gS, k * 6 + 5, none⟩ = some cv := by
  obtain ⟨hz, e⟩ := p.zget k hk
  have key : ∀ j v, j < 6 → (rawS zs[k])[j]? = some v → w.cell? ⟨gS, k * 6 + j, none⟩ = some v := fun j v hj hv => by
    rw [cell_of_blk p.row, spCells_get zs k j hz hj, hv]
  rw [← e]
  exact ⟨(zs[k]).cv, rfl, key 0 _ (by omega) rfl, key 1 _ (by omega) rfl, key 2 _ (by omega) rfl, key 3 _ (by omega) rfl, key 4 _ (by omega) rfl, key 5 _ (by omega) rfl⟩
/-- A cell of the master's own is written. -/
theorem MaP.putM (p : MaP w gM gS gT F c h zs C ok m) (j : Nat) (v : Value) (m' : MaS) (hm : (maCells c h gS gT m).set j v = maCells c h gS gT m') (hsp : m'.sp = m.sp) (hrd : m'.rd.length = 4) : MaP (w.setCell ⟨gM, j, none⟩ v) gM gS gT F c h zs C ok m' where
  blk := by rw [← hm]; exact setCell_blk p.blk v
  row := ((Ch.refl w (fun k => k = gM)).setCell ⟨gM, j, none⟩ v rfl).blk p.row (fun e => p.neS e.symm)
  tal := p.tal.ch ((Ch.refl w (fun k => k = gM)).setCell ⟨gM, j, none⟩ v rfl) (fun e => p.neT e.symm)
  sp := by rw [hsp]; exact p.sp
  cfg := p.cfg.step (fun k hk hlt => ((Ch.refl w (fun k => k = gM)).setCell ⟨gM, j, none⟩ v rfl).block k hlt (p.okF k hk).2.1)
  cnt z hz hw := ⟨Kd.R_step (p.cnt z hz hw).1 (fun k hk hlt => ((Ch.refl w (fun k => k = gM)).setCell ⟨gM, j, none⟩ v rfl).block k hlt (p.okF k hk).2.1), (p.cnt z hz hw).2⟩
  okF := p.okF
  fM := p.fM
  fS := p.fS
  fT := p.fT
  neS := p.neS
  neT := p.neT
  neU := p.neU
  flt k hk := by simpa [World.setCell] using p.flt k hk
  len := by rw [hsp]; exact p.len
  rd := hrd
  may := p.may
/-- A cell of a split is written. -/
theorem MaP.putS (p : MaP w gM gS gT F c h zs C ok m) (k : Nat) (hk : k < zs.length) (j : Nat) (hj : j < 6) (v : Value) (z' : SpV) (hz : rawS z' = (rawS zs[k]).set j v) (hcnt : z'.s.won = true → Kd.R kI 3 w 0 ok z'.cv z'.s.counts ∧ (z'.s.counts.length : Int) = c.job.parts) :
    MaP (w.setCell ⟨gS, k * 6 + j, none⟩ v) gM gS gT F c h (zs.set k z') C ok { m with sp := m.sp.set k z'.s } where
  blk := ((Ch.refl w (fun k => k = gS)).setCell ⟨gS, k * 6 + j, none⟩ v rfl).blk p.blk p.neS
  row := by rw [← spCells_set zs k j hk hj v z' hz]; exact setCell_blk p.row v
  tal := p.tal.ch ((Ch.refl w (fun k => k = gS)).setCell ⟨gS, k * 6 + j, none⟩ v rfl) (fun e => p.neU e.symm)
  sp := by rw [List.map_set, p.sp]
  cfg := p.cfg.step (fun i hi hlt => ((Ch.refl w (fun k => k = gS)).setCell ⟨gS, k * 6 + j, none⟩ v rfl).block i hlt (p.okF i hi).2.2.1)
  cnt z hz hw := by
    have hst : ∀ i, ok i → i < w.heap.size → (w.setCell ⟨gS, k * 6 + j, none⟩ v).heap[i]? = w.heap[i]? := fun i hi hlt => ((Ch.refl w (fun k => k = gS)).setCell ⟨gS, k * 6 + j, none⟩ v rfl).block i hlt (p.okF i hi).2.2.1
    rcases List.mem_or_eq_of_mem_set hz with h1 | h1
    · exact ⟨Kd.R_step (p.cnt z h1 hw).1 hst, (p.cnt z h1 hw).2⟩
    · subst h1
      exact ⟨Kd.R_step (hcnt hw).1 hst, (hcnt hw).2⟩
  okF := p.okF
  fM := p.fM
  fS := p.fS
  fT := p.fT
  neS := p.neS
  neT := p.neT
  neU := p.neU
  flt i hi := by simpa [World.setCell] using p.flt i hi
  len := by show (m.sp.set k z'.s).length = _; rw [List.length_set]; exact p.len
  rd := p.rd
  may := p.may
/-- More blocks are the master's. -/
theorem MaP.more (p : MaP w gM gS gT F c h zs C ok m) {F' ok' : Nat → Prop} (hF : ∀ k, F k → F' k) (hok : ∀ k, ok k → ok' k) (hn : ∀ k, ok' k → F' k ∧ k ≠ gM ∧ k ≠ gS ∧ k ≠ gT) (hlt : ∀ k, F' k → k < w.heap.size) : MaP w gM gS gT F' c h zs C ok' m where
  blk := p.blk
  row := p.row
  tal := p.tal
  sp := p.sp
  cfg := p.cfg.mono hok
  cnt z hz hw := ⟨Kd.R_mono (p.cnt z hz hw).1 hok, (p.cnt z hz hw).2⟩
  okF := hn
  fM := hF _ p.fM
  fS := hF _ p.fS
  fT := hF _ p.fT
  neS := p.neS
  neT := p.neT
  neU := p.neU
  flt := hlt
  len := p.len
  rd := p.rd
  may := p.may
theorem MaP.chM (p : MaP w gM gS gT F c h zs C ok m) (j : Nat) (v : Value) : Ch w (w.setCell ⟨gM, j, none⟩ v) F := (Ch.refl w F).setCell _ _ p.fM
theorem MaP.chS (p : MaP w gM gS gT F c h zs C ok m) (j : Nat) (v : Value) : Ch w (w.setCell ⟨gS, j, none⟩ v) F := (Ch.refl w F).setCell _ _ p.fS
end
/-- An answer's letters: without rows. -/
structure FLet where
  dst : Int
  k : Int
  s : Int
  a : Int
  p : Int
  n : Int
  r : Int
def FLet.d (x : FLet) : LetD := ⟨0, x.dst, ⟨x.k, x.s, x.a, x.p, 0, x.n, 0, x.r, [], []⟩⟩
def fz (x : FLet) : LetZ := ⟨x.d, .slice none 0 0, .slice none 0 0⟩
def LetsP (w : World) (base : Nat) (v : Value) (ls : List FLet) : Prop := Own kLR 51 w base v (ls.map fz)
theorem LetsP.list {w : World} {base : Nat} {v : Value} {ls : List FLet} (h : LetsP w base v ls) : ListP w base v (ls.map fz) (fun _ => none) where
  row := h
  sets j hj := by rw [List.getElem_map]; exact Kd.R_nil _ _ _ _ _
  prs j hj := by rw [List.getElem_map]; exact Kd.R_nil _ _ _ _ _
  out _ _ := rfl
  lt _ hk := absurd rfl hk
theorem LetsP.below {w w' : World} {base : Nat} {v : Value} {ls : List FLet} (h : LetsP w base v ls) (hb : Below w.heap.size w w') : LetsP w' base v ls := Own.below h hb
theorem LetsP.nil (w : World) (base : Nat) : LetsP w base (.slice none 0 0) [] := Own.nil _ _ _ _
theorem LetsP.reads {w : World} {base : Nat} {v : Value} {ls : List FLet} (h : LetsP w base v ls) : ∃ A n, v = .slice A ls.length n ∧ Kd.C kLet w A ls.length (ls.map FLet.d) := by
  obtain ⟨A, n, rfl, hC⟩ := h.list.reads
  rw [List.length_map] at *
  refine ⟨A, n, rfl, ?_⟩
  rw [List.map_map] at hC
  exact hC
end Go.Proofs.Ytbnhhlahbhjogaa.K
