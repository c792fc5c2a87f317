/- The statement LazyApart: a cell of nothing; many cells side by side. -/
import Derived.Test.YtckjgfbfjjiikaaL4
import Derived.Test.YtckjgfbfjjiikaaKL
set_option linter.unusedVariables false
set_option linter.unusedSimpArgs false
namespace Go.Proofs.Ytckjgfbfjjiikaa.K
open Go.RowKit Go.Proofs.YtckjgfbfjjiikaaW.PrintWords Go.Proofs.YtckjgfbfjjiikaaW.PrintLast Go.Proofs.YtckjgfbfjjiikaaW.PrintMore Go.Proofs.Ytckjgfbfjjiikaa.U Go.Proofs.Ytckjgfbfjjiikaa.T

set_option maxRecDepth 100000 in
theorem lzClo_nil (g : Nat) (pl : Addr) (k m : Int) (t : ByteArray) (w : World) (h : CellR w g 0 k m .nilFunc t) (hpl : w.cell? pl = some (.pointer (some ⟨g, 0, none⟩))) :
    Calls Try.prog 65 #[.pointer (some pl)] w fun e w' => e = .returned (.tuple #[]) ∧ w' = w := by
  have hc4 : w.cell? ⟨g, 4, none⟩ = some .nilFunc := cell_of_blk h
  have hnf : ∀ w, (binOp .neq 65 .nilFunc .nilFunc).run Try.prog w = .ok (.bool false) w := fun w => by rfl
  go_enter Try.func65, Try.ntmps65
  go_wp2_with fail
  go_end0
  exact ⟨rfl, rfl⟩
set_option maxRecDepth 100000 in
set_option maxHeartbeats 1600000 in
/-- Get of a cell that has nothing to make its text of, the first time. -/
theorem lzGet_void (g : Nat) (m : Int) (s : ByteArray) (w : World) (h : CellR w g 0 0 m .nilFunc s) :
    Calls Try.prog 46 #[.pointer (some ⟨g, 0, none⟩)] w fun e w' => e = .returned (.string s) ∧ CellR w' g 1 0 1 .nilFunc s ∧ Ch w w' (fun k => k = g) := by
  have hmf : ∀ (fn : Fn) (first cap : Array Value) (w : World), (Instr.makeFunc fn first cap).run Try.prog w = .ok (.func fn first cap) w := fun _ _ _ _ => rfl
  obtain ⟨gl, hgl⟩ : ∃ gl, gl = w.heap.size := ⟨_, rfl⟩
  obtain ⟨wl, hwl⟩ : ∃ wl, wl = w.alloc (.cells #[.pointer (some ⟨g, 0, none⟩)] 63) := ⟨_, rfl⟩
  have hbl := (Below.refl w.heap.size w).alloc (Nat.le_refl _) (.cells #[.pointer (some ⟨g, 0, none⟩)] 63)
  rw [← hwl] at hbl
  have hL : wl.heap[gl]? = some (.cells ([.pointer (some ⟨g, 0, none⟩)] : List Value).toArray 63 (0, 0)) := by rw [hwl, hgl]; exact alloc_at w _
  have hglt : g < gl := by rw [hgl]; exact blk_lt' h
  have h1 : CellR wl g 0 0 m .nilFunc s := (hbl.block g (blk_lt' h)).trans h
  have hpl : wl.cell? ⟨gl, 0, none⟩ = some (.pointer (some ⟨g, 0, none⟩)) := cell_of_blk hL
  have hc3 : wl.cell? ⟨g, 3, none⟩ = some (.int .u32 m) := cell_of_blk h1
  have hz3 : wl.frozen? ⟨g, 3, none⟩ = false := frozen_of_blk h1
  obtain ⟨w2, hw2⟩ : ∃ w2, w2 = wl.drew.setCell ⟨g, 3, none⟩ (.int .u32 1) := ⟨_, rfl⟩
  have h2 : CellR w2 g 0 0 1 .nilFunc s := by rw [hw2]; exact setCell_blk (w := wl.drew) h1 _
  have hL2 : w2.heap[gl]? = some (.cells ([.pointer (some ⟨g, 0, none⟩)] : List Value).toArray 63 (0, 0)) := by rw [hw2]; exact (setCell_other (w := wl.drew) (g := gl) _ _ (by show gl ≠ g; omega)).trans hL
  have hpl2 : w2.cell? ⟨gl, 0, none⟩ = some (.pointer (some ⟨g, 0, none⟩)) := cell_of_blk hL2
  have hc2 : Ch wl w2 (fun k => k = g) := by rw [hw2]; exact (Ch.of_below (below_drew1 (Below.refl _ _)) _).setCell _ _ rfl
  have hcw : Ch w w2 (fun k => k = g) := (Ch.of_below hbl (fun k => k = g)).trans hc2 (fun _ _ h => h)
  have hng : ¬ gl = g := by omega
  have hDo := lzDo_first g ⟨gl, 0, none⟩ 1 .nilFunc s s w2 h2
    (fun w' => CellR w' g 0 1 1 .nilFunc s ∧ w'.heap[gl]? = some (.cells ([.pointer (some ⟨g, 0, none⟩)] : List Value).toArray 63 (0, 0)) ∧ Ch w2 w' (fun k => k = g)) (fun w' hR => hR.1)
    (fun w3 h3 e3 => by
      have hc23 : Ch w2 w3 (fun k => k = g) := by rw [e3]; exact (Ch.refl _ _).setCell _ _ rfl
      have hL3 : w3.heap[gl]? = some (.cells ([.pointer (some ⟨g, 0, none⟩)] : List Value).toArray 63 (0, 0)) := hc23.blk hL2 hng
      refine (lzClo_nil g ⟨gl, 0, none⟩ 1 1 s w3 h3 (cell_of_blk hL3)).mono ?_
      rintro e w5 ⟨rfl, rfl⟩
      exact ⟨rfl, h3, hL3, hc23⟩)
  have HDO := Aside0.mk hDo
  have HCW := Aside0.mk hcw
  have HWL := Aside0.mk hwl
  have HGL := Aside0.mk hgl
  have HW2 := Aside0.mk hw2
  clear hbl hL h1 hL2 hc2 hwl hgl hw2 h hDo hcw h2
  go_enter Try.func46, Try.ntmps46
  go_upto_region 1 with (fail)
  rw [← HGL.out, ← HWL.out]
  go_wp2_with fail
  refine (storeB ⟨g, 3, none⟩ _ _ hc3 hz3).mono ?_
  rintro e w3 ⟨rfl, hw3⟩
  rw [← HW2.out] at hw3
  subst hw3
  clear hpl hc3 hz3
  go_wp2_with fail
  refine HDO.out.mono ?_
  rintro e w3 ⟨rfl, w4, ⟨h4, hL4, hc4⟩, hw3⟩
  have h5 : CellR (w4.drew.setCell ⟨g, 0, none⟩ (.int .u32 1)) g 1 1 1 .nilFunc s := setCell_blk (w := w4.drew) h4 _
  have h6 : CellR w3 g 1 0 1 .nilFunc s := by rw [hw3]; exact setCell_blk h5 _
  have hc43 : Ch w4 w3 (fun k => k = g) := by
    rw [hw3]
    have a1 : Ch w4 w4.drew (fun k => k = g) := Ch.of_below (below_drew1 (Below.refl _ _)) _
    have a2 : Ch w4 (w4.drew.setCell ⟨g, 0, none⟩ (.int .u32 1)) (fun k => k = g) := a1.setCell ⟨g, 0, none⟩ _ rfl
    exact a2.setCell ⟨g, 1, none⟩ _ rfl
  have hL3 := hc43.blk hL4 hng
  have hpl3 : w3.cell? ⟨gl, 0, none⟩ = some (.pointer (some ⟨g, 0, none⟩)) := cell_of_blk hL3
  have hc5 : w3.cell? ⟨g, 5, none⟩ = some (.string s) := cell_of_blk h6
  have HFIN : Aside0 (CellR w3 g 1 0 1 .nilFunc s ∧ Ch w w3 (fun k => k = g)) := ⟨h6, (HCW.out.trans hc4 (fun _ _ h => h)).trans hc43 (fun _ _ h => h)⟩
  clear h4 hL4 hc4 hw3 h5 h6 hc43 hL3 hpl2
  go_wp2_with fail
  go_ret
  exact ⟨rfl, HFIN.out⟩

theorem at_string {w : World} {A : Option Addr} {n : Nat} {xs : List ByteArray} (h : Kd.C Kd.string w A n xs) (k : Nat) (hk : k < xs.length) : ∃ ad, A = some ad ∧ w.cell? (ad.add k) = some (.string xs[k]) := by
  obtain ⟨ad, c, e, hl, hK, hc⟩ := Kd.C_get h ByteArray.empty (k : Int) (by omega) (by have := Kd.C_len h; omega)
  have e1 : c = [.string xs[k]] := by
    have : c = [Value.string (xs.getD (k : Int).toNat ByteArray.empty)] := hK
    rw [this, Int.toNat_natCast]
    simp [List.getD_eq_getElem?_getD, hk]
  subst e1
  have h2 := hc 0 _ rfl
  rw [Int.toNat_natCast] at h2
  exact ⟨ad, e, by simpa [Kd.string, Kd.scalar] using h2⟩
def kPtr : Kd Nat := Kd.scalar (fun g => .pointer (some ⟨g, 0, none⟩)) (fun _ => rfl)
theorem flat_ptr : Flat kPtr := flat_scalar _ _
theorem info_ptr : (Try.prog.info? 63).map (fun i => (i.zero, i.size, i.bytes)) = some (some (.pointer none), 1, 8) := by kernel_rfl
theorem at_ptr {w : World} {A : Option Addr} {n : Nat} {xs : List Nat} (h : Kd.C kPtr w A n xs) (k : Nat) (hk : k < xs.length) : ∃ ad, A = some ad ∧ w.cell? (ad.add k) = some (.pointer (some ⟨xs[k], 0, none⟩)) := by
  obtain ⟨h1, h2, h3⟩ := h
  obtain ⟨ad, e, hc⟩ := h3 (by omega)
  obtain ⟨c1, l1, k1, cell1⟩ := hc k xs[k] (List.getElem?_eq_getElem hk)
  have k2 : c1 = [.pointer (some ⟨xs[k], 0, none⟩)] := k1
  subst k2
  refine ⟨ad, e, ?_⟩
  have := cell1 0 _ rfl
  have e1 : k * kPtr.sz + 0 = k := by show k * 1 + 0 = k; omega
  rwa [e1] at this
theorem blk_ne {w : World} {g h : Nat} {cs cs' : Array Value} {t t' : TypeId} {fr fr' : Nat × Nat} (h1 : w.heap[g]? = some (.cells cs t fr)) (h2 : w.heap[h]? = some (.cells cs' t' fr')) (ht : t ≠ t') : g ≠ h := by
  rintro rfl
  rw [h1] at h2
  injection h2 with h2
  injection h2 with _ h2 _
  exact ht h2
theorem own_blk {α : Type} {d : Kd α} {e : TypeId} {w : World} {base : Nat} {v : Value} {xs : List α} (h : Own d e w base v xs) {k : Nat} (hk : v.ownBlock = some k) : ∃ cs, w.heap[k]? = some (.cells cs e (0, 0)) := by
  obtain ⟨_, inner, ⟨hl, ho⟩, hr⟩ := h
  rcases ho with ⟨rfl, _⟩ | ⟨g, cap, cells, rfl, hb, hg, r⟩
  · cases hk
  · injection hk with hk
    exact ⟨cells, hk ▸ hg⟩

/-- Which cells were asked, as numbers. -/
def mark (st : Nat → Bool) : List Int := (List.range 20).map (fun j => if st j then 1 else 0)
def setSt (st : Nat → Bool) (q : Nat) : Nat → Bool := fun j => if j = q then true else st j
theorem mark_at (st : Nat → Bool) (j : Nat) (h : j < 20) : (nums .i64 (mark st))[j]? = some (.int .i64 (if st j then 1 else 0)) := by
  simp [nums, mark, h]
theorem mark_set (st : Nat → Bool) (q : Nat) (h : q < 20) : (nums .i64 (mark st)).set q (.int .i64 1) = nums .i64 (mark (setSt st q)) := by
  apply List.ext_getElem?
  intro i
  rw [List.getElem?_set]
  by_cases hq : q = i
  · subst hq
    rw [if_pos rfl, if_pos (by simp [nums, mark, h]), mark_at _ _ h]
    simp [setSt]
  · rw [if_neg hq]
    by_cases hi : i < 20
    · rw [mark_at _ _ hi, mark_at _ _ hi]
      simp [setSt, Ne.symm hq]
    · rw [List.getElem?_eq_none (by simp [nums, mark]; omega), List.getElem?_eq_none (by simp [nums, mark]; omega)]
def cloV (gM gk gts : Nat) : Value := .func (.func 47) #[] #[.pointer (some ⟨gM, 0, none⟩), .pointer (some ⟨gk, 0, none⟩), .pointer (some ⟨gts, 0, none⟩)]
/-- A cell that was asked, or not. -/
def CellS (w : World) (g : Nat) (b : Bool) (f : Value) (s : ByteArray) : Prop := (b = true ∧ CellR w g 1 0 1 f s) ∨ (b = false ∧ CellR w g 0 0 0 f ⟨#[]⟩)
theorem CellS.blk {w : World} {g : Nat} {b : Bool} {f : Value} {s : ByteArray} (h : CellS w g b f s) : ∃ d k m t, w.heap[g]? = some (.cells (cellL d k m f t).toArray 102 (0, 0)) := by
  rcases h with ⟨_, h⟩ | ⟨_, h⟩
  · exact ⟨_, _, _, _, h⟩
  · exact ⟨_, _, _, _, h⟩
theorem CellS.ch {w w' : World} {g : Nat} {b : Bool} {f : Value} {s : ByteArray} {S : Nat → Prop} (h : CellS w g b f s) (hc : Ch w w' S) (hS : ¬ S g) : CellS w' g b f s := by
  rcases h with ⟨e, h⟩ | ⟨e, h⟩
  · exact .inl ⟨e, h.ch hc hS⟩
  · exact .inr ⟨e, h.ch hc hS⟩
/-- The cells side by side: gts holds the texts, gM how often each was made. -/
structure Ap (w : World) (B gts gM : Nat) (A : Option Addr) (c : Nat) (ts : List ByteArray) (gs ks : List Nat) (st : Nat → Bool) : Prop where
  bts : B ≤ gts
  bM : B ≤ gM
  bg : ∀ j, j < gs.length → B ≤ gs.getD j 0
  ts_ : w.heap[gts]? = some (.cells ([.slice A ts.length c] : List Value).toArray 68 (0, 0))
  m_ : w.heap[gM]? = some (.cells (nums .i64 (mark st)).toArray 70 (0, 0))
  len : ks.length = gs.length
  k_ : ∀ j, j < gs.length → w.heap[ks.getD j 0]? = some (.cells ([.int .i64 j] : List Value).toArray 3 (0, 0))
  c_ : ∀ j, j < gs.length → CellS w (gs.getD j 0) (st j) (cloV gM (ks.getD j 0) gts) (ts.getD j ⟨#[]⟩)
theorem Ap.ch {w w' : World} {B gts gM : Nat} {A : Option Addr} {c : Nat} {ts : List ByteArray} {gs ks : List Nat} {st : Nat → Bool} (h : Ap w B gts gM A c ts gs ks st) {S : Nat → Prop} (hc : Ch w w' S)
    (h1 : ¬ S gts) (h2 : ¬ S gM) (h3 : ∀ j, j < gs.length → ¬ S (ks.getD j 0)) (h4 : ∀ j, j < gs.length → ¬ S (gs.getD j 0)) : Ap w' B gts gM A c ts gs ks st where
  bts := h.bts
  bM := h.bM
  bg := h.bg
  ts_ := hc.blk h.ts_ h1
  m_ := hc.blk h.m_ h2
  len := h.len
  k_ j hj := hc.blk (h.k_ j hj) (h3 j hj)
  c_ j hj := (h.c_ j hj).ch hc (h4 j hj)
theorem Ap.below {w w' : World} {B gts gM : Nat} {A : Option Addr} {c : Nat} {ts : List ByteArray} {gs ks : List Nat} {st : Nat → Bool} (h : Ap w B gts gM A c ts gs ks st) (hb : Below w.heap.size w w') : Ap w' B gts gM A c ts gs ks st :=
  h.ch (Ch.of_below hb (fun _ => False)) id id (fun _ _ => id) (fun _ _ => id)
/-- A row of another kind is written. -/
theorem Ap.row {w w' : World} {B gts gM : Nat} {A : Option Addr} {c : Nat} {ts : List ByteArray} {gs ks : List Nat} {st : Nat → Bool} (h : Ap w B gts gM A c ts gs ks st) {base : Nat} {v : Value} {xs : List Nat} (hO : Own kPtr 63 w base v xs) (hg : w.grownBy w' v.ownBlock) : Ap w' B gts gM A c ts gs ks st := by
  refine h.ch (Ch.of_grown (S := fun k => v.ownBlock = some k) hg (fun k hk => hk)) ?_ ?_ ?_ ?_
  · intro hk
    obtain ⟨cs, hcs⟩ := own_blk hO hk
    exact blk_ne hcs h.ts_ (by decide) rfl
  · intro hk
    obtain ⟨cs, hcs⟩ := own_blk hO hk
    exact blk_ne hcs h.m_ (by decide) rfl
  · intro j hj hk
    obtain ⟨cs, hcs⟩ := own_blk hO hk
    exact blk_ne hcs (h.k_ j hj) (by decide) rfl
  · intro j hj hk
    obtain ⟨cs, hcs⟩ := own_blk hO hk
    obtain ⟨_, _, _, _, h2⟩ := (h.c_ j hj).blk
    exact blk_ne hcs h2 (by decide) rfl
theorem getD_snoc {α : Type} (l : List α) (x d : α) (j : Nat) : (l ++ [x]).getD j d = if j = l.length then x else l.getD j d := by
  simp only [List.getD_eq_getElem?_getD]
  by_cases h : j = l.length
  · subst h; simp
  · rw [if_neg h]
    rcases Nat.lt_or_ge j l.length with hl | hl
    · rw [List.getElem?_append_left hl]
    · rw [List.getElem?_eq_none (by simp; omega), List.getElem?_eq_none (by omega)]
/-- One cell more. -/
theorem Ap.more {w : World} {B gts gM : Nat} {A : Option Addr} {c : Nat} {ts : List ByteArray} {gs ks : List Nat} (h : Ap w B gts gM A c ts gs ks (fun _ => false)) (g k : Nat) (hB : B ≤ g)
    (hk : w.heap[k]? = some (.cells ([.int .i64 gs.length] : List Value).toArray 3 (0, 0))) (hg : CellR w g 0 0 0 (cloV gM k gts) ⟨#[]⟩) : Ap w B gts gM A c ts (gs ++ [g]) (ks ++ [k]) (fun _ => false) where
  bts := h.bts
  bM := h.bM
  bg j hj := by
    rw [getD_snoc]
    split
    · exact hB
    · exact h.bg j (by rw [List.length_append, List.length_singleton] at hj; omega)
  ts_ := h.ts_
  m_ := h.m_
  len := by rw [List.length_append, List.length_append, h.len, List.length_singleton, List.length_singleton]
  k_ j hj := by
    rw [getD_snoc]
    split
    · rename_i e
      rw [e, h.len]
      exact hk
    · rename_i e
      exact h.k_ j (by rw [List.length_append, List.length_singleton] at hj; rw [h.len] at e; omega)
  c_ j hj := by
    rw [getD_snoc, getD_snoc, h.len]
    split
    · exact .inr ⟨rfl, hg⟩
    · rename_i e
      exact h.c_ j (by rw [List.length_append, List.length_singleton] at hj; omega)
theorem Ap.inj {w : World} {B gts gM : Nat} {A : Option Addr} {c : Nat} {ts : List ByteArray} {gs ks : List Nat} {st : Nat → Bool} (h : Ap w B gts gM A c ts gs ks st) (i j : Nat) (hi : i < gs.length) (hj : j < gs.length) (e : gs.getD i 0 = gs.getD j 0) : i = j := by
  obtain ⟨_, _, _, _, h1⟩ := (h.c_ i hi).blk
  obtain ⟨_, _, _, _, h2⟩ := (h.c_ j hj).blk
  rw [e, h2] at h1
  simp only [cellL, cloV, Option.some.injEq, Obj.cells.injEq, List.toArray_inj, List.cons.injEq, Array.mk.injEq, Value.func.injEq, Value.pointer.injEq, Addr.mk.injEq] at h1
  have hk : ks.getD i 0 = ks.getD j 0 := by
    have := h1
    simp at this
    omega
  have a1 := h.k_ i hi
  rw [hk, h.k_ j hj] at a1
  simp at a1
  omega

theorem clo47 (gM gk gts j n c : Nat) (ad : Addr) (s : ByteArray) (w : World) (hj : (j : Int) < 20) (hjn : (j : Int) < n) (hk0 : w.cell? ⟨gk, 0, none⟩ = some (.int .i64 j)) (hm : w.cell? ⟨gM, j, none⟩ = some (.int .i64 0)) (hz : w.frozen? ⟨gM, j, none⟩ = false)
    (hk1 : (w.setCell ⟨gM, j, none⟩ (.int .i64 1)).cell? ⟨gk, 0, none⟩ = some (.int .i64 j)) (ht1 : (w.setCell ⟨gM, j, none⟩ (.int .i64 1)).cell? ⟨gts, 0, none⟩ = some (.slice (some ad) n c)) (hs1 : (w.setCell ⟨gM, j, none⟩ (.int .i64 1)).cell? (ad.add j) = some (.string s)) :
    Calls Try.prog 47 #[.pointer (some ⟨gM, 0, none⟩), .pointer (some ⟨gk, 0, none⟩), .pointer (some ⟨gts, 0, none⟩)] w fun e w' => e = .returned (.string s) ∧ w' = w.setCell ⟨gM, j, none⟩ (.int .i64 1) := by
  have hj0 : (0 : Int) ≤ j := by omega
  go_enter Try.func47, Try.ntmps47
  go_wp2_with fail
  go_ret
  exact ⟨rfl, rfl⟩

set_option maxHeartbeats 1600000 in
/-- A cell is asked. -/
theorem apGet (w : World) (B gts gM : Nat) (A : Option Addr) (c : Nat) (ts : List ByteArray) (gs ks : List Nat) (st : Nat → Bool) (h : Ap w B gts gM A c ts gs ks st) (hl : gs.length = ts.length) (hl20 : ts.length ≤ 20) (hC : Kd.C Kd.string w A ts.length ts) (hA : ∀ ad j u, A = some ad → w.cell? (ad.add j) = some u → (ad.add j).block < B) (q : Nat) (hq : q < ts.length) :
    Calls Try.prog 46 #[.pointer (some ⟨gs.getD q 0, 0, none⟩)] w fun e w' => e = .returned (.string (ts.getD q ⟨#[]⟩)) ∧ Ap w' B gts gM A c ts gs ks (setSt st q) ∧ Ch w w' (fun k => k = gs.getD q 0 ∨ k = gM) := by
  have hqg : q < gs.length := by omega
  obtain ⟨d0, k0, m0, t0, hb⟩ := (h.c_ q hqg).blk
  have n1 : gts ≠ gs.getD q 0 := blk_ne h.ts_ hb (by decide)
  have n2 : gM ≠ gs.getD q 0 := blk_ne h.m_ hb (by decide)
  have n3 : ∀ j, j < gs.length → ks.getD j 0 ≠ gs.getD q 0 := fun j hj => blk_ne (h.k_ j hj) hb (by decide)
  have n4 : gts ≠ gM := blk_ne h.ts_ h.m_ (by decide)
  have n5 : ∀ j, j < gs.length → ks.getD j 0 ≠ gM := fun j hj => blk_ne (h.k_ j hj) h.m_ (by decide)
  have n6 : ∀ j, j < gs.length → gs.getD j 0 ≠ gM := fun j hj => by
    obtain ⟨_, _, _, _, hb'⟩ := (h.c_ j hj).blk
    exact blk_ne hb' h.m_ (by decide)
  have hfin : ∀ w', CellR w' (gs.getD q 0) 1 0 1 (cloV gM (ks.getD q 0) gts) (ts.getD q ⟨#[]⟩) → w'.heap[gM]? = some (.cells (nums .i64 (mark (setSt st q))).toArray 70 (0, 0)) → Ch w w' (fun k => k = gs.getD q 0 ∨ k = gM) → Ap w' B gts gM A c ts gs ks (setSt st q) := fun w' h1 h2 hc =>
    { bts := h.bts, bM := h.bM, bg := h.bg, ts_ := hc.blk h.ts_ (by omega), m_ := h2, len := h.len, k_ := fun j hj => hc.blk (h.k_ j hj) (by have := n3 j hj; have := n5 j hj; omega),
      c_ := fun j hj => by
        by_cases e : j = q
        · subst e
          exact .inl ⟨by simp [setSt], h1⟩
        · have e1 : setSt st q j = st j := by simp [setSt, e]
          rw [e1]
          exact (h.c_ j hj).ch hc (by rintro (e2 | e2); exact e (h.inj j q hj hqg e2); exact n6 j hj e2) }
  rcases h.c_ q hqg with ⟨e, hcq⟩ | ⟨e, hcq⟩
  · refine (lzGet_again _ 1 _ _ w hcq).mono ?_
    rintro e' w' ⟨rfl, h1, hc⟩
    have hc' : Ch w w' (fun k => k = gs.getD q 0 ∨ k = gM) := hc.mono (fun _ h => .inl h)
    have es : setSt st q = st := by
      funext j
      unfold setSt
      split
      · rename_i ej; rw [ej, e]
      · rfl
    exact ⟨rfl, hfin w' h1 (by rw [es]; exact hc.blk h.m_ n2) hc', hc'⟩
  · obtain ⟨ad, rfl, hs⟩ := at_string hC q hq
    have hsb := hA ad q _ rfl hs
    have hts : ts[q] = ts.getD q ⟨#[]⟩ := by simp [List.getD_eq_getElem?_getD, hq]
    rw [hts] at hs
    have hbq := h.bg q hqg
    have hbM := h.bM
    have n7 : (ad.add q).block ≠ gs.getD q 0 := by omega
    have n8 : (ad.add q).block ≠ gM := by omega
    have hI : ∀ w1 w2 : World, (w1.heap[gts]? = some (.cells ([.slice (some ad) ts.length c] : List Value).toArray 68 (0, 0)) ∧ w1.heap[gM]? = some (.cells (nums .i64 (mark st)).toArray 70 (0, 0)) ∧ w1.heap[ks.getD q 0]? = some (.cells ([.int .i64 q] : List Value).toArray 3 (0, 0)) ∧ w1.cell? (ad.add q) = some (.string (ts.getD q ⟨#[]⟩))) → Ch w1 w2 (fun k => k = gs.getD q 0) →
        (w2.heap[gts]? = some (.cells ([.slice (some ad) ts.length c] : List Value).toArray 68 (0, 0)) ∧ w2.heap[gM]? = some (.cells (nums .i64 (mark st)).toArray 70 (0, 0)) ∧ w2.heap[ks.getD q 0]? = some (.cells ([.int .i64 q] : List Value).toArray 3 (0, 0)) ∧ w2.cell? (ad.add q) = some (.string (ts.getD q ⟨#[]⟩))) :=
      fun w1 w2 h1 hc => ⟨hc.blk h1.1 n1, hc.blk h1.2.1 n2, hc.blk h1.2.2.1 (n3 q hqg), hc.cell h1.2.2.2 n7⟩
    refine (lzGet_first (gs.getD q 0) 0 47 _ (fun w => ent_of Try.func47 (by kernel_rfl) rfl _ w) ⟨#[]⟩ (ts.getD q ⟨#[]⟩) w hcq
      (fun w1 => w1.heap[gts]? = some (.cells ([.slice (some ad) ts.length c] : List Value).toArray 68 (0, 0)) ∧ w1.heap[gM]? = some (.cells (nums .i64 (mark st)).toArray 70 (0, 0)) ∧ w1.heap[ks.getD q 0]? = some (.cells ([.int .i64 q] : List Value).toArray 3 (0, 0)) ∧ w1.cell? (ad.add q) = some (.string (ts.getD q ⟨#[]⟩)))
      (fun w1 => w1.heap[gM]? = some (.cells (nums .i64 (mark (setSt st q))).toArray 70 (0, 0))) (fun k => k = gM) ⟨h.ts_, h.m_, h.k_ q hqg, hs⟩ hI (fun _ _ h1 hc => hc.blk h1 n2) (fun e => n2 e.symm) (fun k hk => by rw [hk]; exact blk_lt' h.m_) ?_).mono ?_
    · rintro w1 ⟨i1, i2, i3, i4⟩
      have hc : Ch w1 (w1.setCell ⟨gM, q, none⟩ (.int .i64 1)) (fun k => k = gM) := (Ch.refl _ _).setCell ⟨gM, q, none⟩ _ rfl
      have hm0 : w1.cell? ⟨gM, q, none⟩ = some (.int .i64 0) := by
        rw [cell_of_blk i2, mark_at _ _ (by omega), e]
        rfl
      have hM1 := setCell_blk (j := q) i2 (.int .i64 1)
      rw [mark_set _ _ (by omega)] at hM1
      refine (clo47 gM (ks.getD q 0) gts q ts.length c ad (ts.getD q ⟨#[]⟩) w1 (by omega) (by omega) (cell_of_blk i3) hm0 (frozen_of_blk i2) (cell_of_blk (hc.blk i3 (n5 q hqg))) (cell_of_blk (hc.blk i1 n4)) (hc.cell i4 n8)).mono ?_
      rintro e' w2 ⟨rfl, rfl⟩
      exact ⟨rfl, hM1, hc⟩
    · rintro e' w' ⟨rfl, h1, h2, hc⟩
      exact ⟨rfl, hfin w' h1 h2 hc, hc⟩
end Go.Proofs.Ytckjgfbfjjiikaa.K
