/- The program's net and the document's, side by side. -/
import Derived.Test.YtkgbcoijkmlmnaaE21
import Derived.Test.YtkgbcoijkmlmnaaE17
import Derived.Test.YtkgbcoijkmlmnaaE16
set_option linter.unusedVariables false
set_option linter.unusedSimpArgs false
set_option maxRecDepth 100000
namespace Go.Proofs.Ytkgbcoijkmlmnaa.K
open Go.RowKit Go.Proofs.YtkgbcoijkmlmnaaW.PrintWords Go.Proofs.YtkgbcoijkmlmnaaW.PrintLast Go.Proofs.YtkgbcoijkmlmnaaW.PrintMore Go.Proofs.Ytkgbcoijkmlmnaa.U Go.Proofs.Ytkgbcoijkmlmnaa.T

/-- A letter whose rows stand in the world W. -/
def OkM (W : World) (z : LetZ) : Prop := ∃ A1 c1 A2 c2, z.sv = .slice A1 z.x.m.set.length c1 ∧ z.pv = .slice A2 z.x.m.prs.length c2 ∧ MsgC W z.x.m A1 A2 c1 c2 ∧ SmallM z.x.m
theorem OkM.sl {W : World} {z : LetZ} (h : OkM W z) : SlZ z := by
  obtain ⟨A1, c1, A2, c2, h1, h2, _⟩ := h
  exact ⟨A1, c1, A2, c2, h1, h2⟩
theorem OkM.small {W : World} {z : LetZ} (h : OkM W z) : SmallM z.x.m := by
  obtain ⟨A1, c1, A2, c2, _, _, _, h⟩ := h
  exact h
theorem OkM.okz {W : World} {z : LetZ} (h : OkM W z) : OkZ z (rawZ z) := by
  obtain ⟨A1, c1, A2, c2, h1, h2, _⟩ := h
  exact ⟨rfl, by rw [h1]; rfl, by rw [h2]; rfl⟩
theorem OkM.let {W w : World} {z : LetZ} (h : OkM W z) (hb : Below W.heap.size W w) : kLet.K w z.x (rawZ z) := by
  obtain ⟨A1, c1, A2, c2, h1, h2, hm, _⟩ := h
  unfold rawZ
  rw [h1, h2]
  exact kLet_mk (hm.below hb)
theorem C_of_some {α β : Type} {d : Kd α} (f : β → List Value) (q : β → α) (w : World) (xs : List β) (hK : ∀ x ∈ xs, d.K w (q x) (f x)) (hf : ∀ x, (f x).length = d.sz) {g : Nat} {t : TypeId} {fr : Nat × Nat} (h : w.heap[g]? = some (.cells ((xs.map f).flatten).toArray t fr)) (hl : xs.length ≤ 1000) : Kd.C d w (some ⟨g, 0, none⟩) (xs.map q).length (xs.map q) := by
  have hcell : ∀ j u, ((xs.map f).flatten)[j]? = some u → w.cell? ((⟨g, 0, none⟩ : Addr).add j) = some u := cells_of_blk h
  refine ⟨rfl, by rw [List.length_map]; show xs.length ≤ 9223372036854775807; omega, fun hk0 => ⟨_, rfl, fun j x hj => ?_⟩⟩
  rw [List.getElem?_map] at hj
  obtain ⟨y, hy, rfl⟩ := Option.map_eq_some_iff.1 hj
  refine ⟨f y, hf y, hK y (List.mem_of_getElem? hy), fun i u hu => ?_⟩
  refine hcell _ _ ?_
  have hi : i < d.sz := by rw [← hf y]; exact (List.getElem?_eq_some_iff.1 hu).1
  clear hcell hl hk0 h hj hK
  show ((xs.map f).flatten)[j * d.sz + i]? = some u
  induction xs generalizing j with
  | nil => simp at hy
  | cons v vs ih =>
    rw [List.map_cons, List.flatten_cons]
    cases j with
    | zero =>
      simp at hy
      subst hy
      rw [Nat.zero_mul, Nat.zero_add, List.getElem?_append_left (by rw [hf]; exact hi)]
      exact hu
    | succ j =>
      rw [List.getElem?_append_right (by rw [hf, Nat.succ_mul]; omega), hf]
      have := ih j (by simpa using hy)
      rw [show (j + 1) * d.sz + i - d.sz = j * d.sz + i from by rw [Nat.succ_mul]; omega]
      exact this
/-- Rows of numbers or pairs do not stand where a slice alone stands. -/
theorem cell_far {w w' : World} {gR : Nat} {A : Option Addr} {n c : Nat} {t : TypeId} {fr : Nat × Nat} (hR : w.heap[gR]? = some (.cells ([.slice A n c] : List Value).toArray t fr)) (hc : Ch w w' (fun k => k = gR)) {a : Addr} {u : Value} (h : w.cell? a = some u) (hu : ∀ B m d, u ≠ .slice B m d) : w'.cell? a = some u := by
  by_cases hb : a.block = gR
  · exfalso
    unfold World.cell? at h
    rw [hb, hR] at h
    simp only at h
    split at h
    · cases h
    · cases ho : a.off with
      | zero =>
        rw [ho] at h
        simp at h
        exact hu _ _ _ h.symm
      | succ j =>
        rw [ho] at h
        simp at h
  · exact hc.cell h hb
theorem C_far {α : Type} {d : Kd α} {w w' : World} {gR : Nat} {A : Option Addr} {n c : Nat} {t : TypeId} {fr : Nat × Nat} (hR : w.heap[gR]? = some (.cells ([.slice A n c] : List Value).toArray t fr)) (hc : Ch w w' (fun k => k = gR)) (hK : ∀ x cs, d.K w x cs → d.K w' x cs ∧ ∀ u ∈ cs, ∀ B m e, u ≠ .slice B m e) {B : Option Addr} {m : Nat} {xs : List α} (h : Kd.C d w B m xs) : Kd.C d w' B m xs := by
  obtain ⟨h1, h2, h3⟩ := h
  refine ⟨h1, h2, fun hm => ?_⟩
  obtain ⟨ad, e, hcs⟩ := h3 hm
  refine ⟨ad, e, fun j x hj => ?_⟩
  obtain ⟨cs, hl, hk, hcell⟩ := hcs j x hj
  exact ⟨cs, hl, (hK x cs hk).1, fun i u hu => cell_far hR hc (hcell i u hu) ((hK x cs hk).2 u (List.mem_of_getElem? hu))⟩
theorem MsgC.far {w w' : World} {gR : Nat} {A : Option Addr} {n c : Nat} {t : TypeId} {fr : Nat × Nat} (hR : w.heap[gR]? = some (.cells ([.slice A n c] : List Value).toArray t fr)) (hc : Ch w w' (fun k => k = gR)) {m : MsgD} {A1 A2 : Option Addr} {c1 c2 : Nat} (h : MsgC w m A1 A2 c1 c2) : MsgC w' m A1 A2 c1 c2 := by
  refine ⟨C_far hR hc (fun x cs hk => ⟨hk, ?_⟩) h.s, C_far hR hc (fun x cs hk => ⟨hk, ?_⟩) h.p, h.ls, h.lp⟩
  · obtain rfl := hk
    intro u hu B m e
    simp at hu
    subst hu
    simp
  · obtain rfl := kPair_open hk
    intro u hu B m e
    simp at hu
    rcases hu with rfl | rfl <;> simp
structure TwoN (W w : World) (gN gR n : Nat) (ls : List LetD) (zs : List LetZ) (bs : List (Nat × Obj)) (F : Nat → Prop) (lost : Int) (A : Option Addr) (c : Nat) : Prop where
  net : NetR w gN F ls lost
  ref : RefN w gR (fun k => k = gR ∨ F k) A c zs
  nR : ¬ F gR
  lo : ∀ k, (k = gR ∨ F k) → W.heap.size ≤ k
  lst : 0 ≤ lost ∧ lost ≤ n
  zl : zs.length ≤ 128
  zok : ∀ z ∈ zs, OkM W z
  lok : ∀ x ∈ ls, SmallM x.m
  bs : ∀ p ∈ bs, w.heap[p.1]? = some p.2 ∧ p.1 ≠ gR ∧ ¬ F p.1
  low : Below W.heap.size W w
def Two (W w : World) (gN gR n : Nat) (ls : List LetD) (zs : List LetZ) (bs : List (Nat × Obj)) : Prop := ∃ F lost A c, TwoN W w gN gR n ls zs bs F lost A c
section
variable {W w w' : World} {gN gR n n' : Nat} {ls ls' : List LetD} {zs zs' : List LetZ} {bs bs' : List (Nat × Obj)} {F F' : Nat → Prop} {lost lost' : Int} {A A' : Option Addr} {c c' : Nat}
theorem TwoN.rlt (h : TwoN W w gN gR n ls zs bs F lost A c) : gR < w.heap.size := h.ref.zlt gR (.inl rfl)
theorem TwoN.below (h : TwoN W w gN gR n ls zs bs F lost A c) (hb : Below w.heap.size w w') : TwoN W w' gN gR n ls zs bs F lost A c where
  net := h.net.below hb
  ref := h.ref.step (T := fun _ => False) (Ch.of_below hb _) (fun _ _ h => h.elim) (.inl rfl) (fun k hk => Nat.lt_of_lt_of_le (h.ref.zlt k hk) hb.size) (fun _ _ h => h)
  nR := h.nR
  lo := h.lo
  lst := h.lst
  zl := h.zl
  zok := h.zok
  lok := h.lok
  bs p hp := ⟨(hb.block p.1 (blk_lt' (h.bs p hp).1)).trans (h.bs p hp).1, (h.bs p hp).2⟩
  low := below_then h.low h.low.size hb
theorem Two.below (h : Two W w gN gR n ls zs bs) (hb : Below w.heap.size w w') : Two W w' gN gR n ls zs bs := by
  obtain ⟨F, lost, A, c, h⟩ := h
  exact ⟨F, lost, A, c, h.below hb⟩
theorem Two.drew (h : Two W w gN gR n ls zs bs) : Two W w.drew gN gR n ls zs bs := h.below (below_drew w)
theorem Two.alloc (h : Two W w gN gR n ls zs bs) (o : Obj) : Two W (w.alloc o) gN gR n ls zs ((w.heap.size, o) :: bs) := by
  obtain ⟨F, lost, A, c, h⟩ := h
  have h2 := h.below ((Below.refl w.heap.size w).alloc (Nat.le_refl _) o)
  refine ⟨F, lost, A, c, h2.net, h2.ref, h2.nR, h2.lo, h2.lst, h2.zl, h2.zok, h2.lok, fun p hp => ?_, h2.low⟩
  rcases List.mem_cons.1 hp with rfl | hp
  · exact ⟨alloc_at w o, fun e => by have := h.rlt; simp at e; omega, fun e => by have := h.net.flt _ e; simp at this⟩
  · exact h2.bs p hp
theorem Two.weak (h : Two W w gN gR n ls zs bs) (hb : ∀ p ∈ bs', p ∈ bs) : Two W w gN gR n ls zs bs' := by
  obtain ⟨F, lost, A, c, h⟩ := h
  exact ⟨F, lost, A, c, h.net, h.ref, h.nR, h.lo, h.lst, h.zl, h.zok, h.lok, fun p hp => h.bs p (hb p hp), h.low⟩
theorem Two.blk (h : Two W w gN gR n ls zs bs) {g : Nat} {o : Obj} (hm : (g, o) ∈ bs) : w.heap[g]? = some o := by
  obtain ⟨F, lost, A, c, h⟩ := h
  exact (h.bs _ hm).1
theorem Two.low (h : Two W w gN gR n ls zs bs) : Below W.heap.size W w := by
  obtain ⟨F, lost, A, c, h⟩ := h
  exact h.low
theorem Two.len (h : Two W w gN gR n ls zs bs) : ls.length ≤ 128 ∧ zs.length ≤ 128 := by
  obtain ⟨F, lost, A, c, h⟩ := h
  obtain ⟨_, _, _, hn⟩ := h.net
  exact ⟨hn.len, h.zl⟩
theorem Two.lok (h : Two W w gN gR n ls zs bs) : ∀ x ∈ ls, SmallM x.m := by
  obtain ⟨F, lost, A, c, h⟩ := h
  exact h.lok
theorem Two.zok (h : Two W w gN gR n ls zs bs) : ∀ z ∈ zs, OkM W z := by
  obtain ⟨F, lost, A, c, h⟩ := h
  exact h.zok
theorem Two.more (h : Two W w gN gR n ls zs bs) (hn : n ≤ n') : Two W w gN gR n' ls zs bs := by
  obtain ⟨F, lost, A, c, h⟩ := h
  exact ⟨F, lost, A, c, h.net, h.ref, h.nR, h.lo, ⟨h.lst.1, by have := h.lst.2; omega⟩, h.zl, h.zok, h.lok, h.bs, h.low⟩
/-- The program's net goes on. -/
theorem TwoN.prog (h : TwoN W w gN gR n ls zs bs F lost A c) (hN : NetR w' gN F' ls' lost') (hF : ∀ k, F' k → F k ∨ w.heap.size ≤ k) (hc : Ch w w' F) (hl : 0 ≤ lost' ∧ lost' ≤ n') (hs : ∀ x ∈ ls', SmallM x.m) : Two W w' gN gR n' ls' zs bs := by
  have hR := h.rlt
  refine ⟨F', lost', A, c, hN, h.ref.step (T := F) hc (fun k hk hf => ⟨.inr hf, fun e => h.nR (e ▸ hf)⟩) (.inl rfl) (fun k hk => ?_) (fun k hlt hk => ?_), fun e => ?_, fun k hk => ?_, hl, h.zl, h.zok, hs, fun p hp => ?_, ?_⟩
  · rcases hk with rfl | hk
    · exact Nat.lt_of_lt_of_le hR hc.size
    · exact hN.flt k hk
  · rcases hk with rfl | hk
    · exact .inl rfl
    · rcases hF k hk with h1 | h1
      · exact .inr h1
      · omega
  · rcases hF gR e with h1 | h1
    · exact h.nR h1
    · omega
  · rcases hk with rfl | hk
    · exact h.lo k (.inl rfl)
    · rcases hF k hk with h1 | h1
      · exact h.lo k (.inr h1)
      · exact Nat.le_trans h.low.size h1
  · obtain ⟨h1, h2, h3⟩ := h.bs p hp
    refine ⟨hc.blk h1 h3, h2, fun e => ?_⟩
    rcases hF _ e with h4 | h4
    · exact h3 h4
    · have := blk_lt' h1
      omega
  · exact Below.ch h.low hc h.low.size (fun k hk => h.lo k (.inr hk))
/-- The document's net goes on. -/
theorem TwoN.doc (h : TwoN W w gN gR n ls zs bs F lost A c) (hR : RefN w' gR (fun k => k = gR ∨ F k) A' c' zs') (hc : Ch w w' (fun k => k = gR)) (hl : zs'.length ≤ 128) (hs : ∀ z ∈ zs', OkM W z) : Two W w' gN gR n ls zs' bs :=
  ⟨F, lost, A', c', h.net.ch hc (fun k hk e => h.nR (e ▸ hk)), hR, h.nR, h.lo, h.lst, hl, hs, h.lok, fun p hp => ⟨hc.blk (h.bs p hp).1 (h.bs p hp).2.1, (h.bs p hp).2⟩, Below.ch h.low hc h.low.size (fun k hk => by rw [hk]; exact h.lo gR (.inl rfl))⟩
theorem MsgD.mil {m : MsgD} (h : SmallM m) : m.set.length ≤ 1000000 ∧ m.prs.length ≤ 1000000 := by
  have := h.1
  have := h.2
  omega
theorem Two.send {z1 z2 : LetZ} {g : Nat} {t : TypeId} (h : Two W w gN gR n ls zs bs) (hm : (g, Obj.cells (rawZ z1 ++ rawZ z2).toArray t (0, 0)) ∈ bs) (h1 : OkM W z1) (h2 : OkM W z2) (hn : n ≤ 1000) :
    Calls Try.prog 13 #[.pointer (some ⟨gN, 0, none⟩), .slice (some ⟨g, 0, none⟩) 2 2] w fun e w' => e = .returned (.int .i64 (lostN ls [z1.x, z2.x])) ∧ Two W w' gN gR (n + 2) (sendL ls [z1.x, z2.x]) zs bs := by
  obtain ⟨F, lost, A, c, h⟩ := h
  obtain ⟨hg1, hg2, hg3⟩ := h.bs _ hm
  have hr := lostN_rng ls [z1.x, z2.x]
  have hl := h.lst
  refine (netSend w gN F ls lost h.net (some ⟨g, 0, none⟩) 2 [z1.x, z2.x] (fun w' hc => ?_) (by simp) (fun x hx => ?_) ⟨hl.1, by omega⟩).mono ?_
  · have hb : Below W.heap.size W w' := Below.ch h.low hc h.low.size (fun k hk => h.lo k (.inr hk))
    refine C_of_some rawZ (·.x) w' [z1, z2] (fun z hz => ?_) (fun _ => rfl) (g := g) (t := t) (fr := (0, 0)) ?_ (by simp)
    · simp at hz
      rcases hz with rfl | rfl
      · exact h1.let hb
      · exact h2.let hb
    · have := hc.blk hg1 hg3
      simpa using this
  · simp at hx
    rcases hx with rfl | rfl
    · exact MsgD.mil h1.small
    · exact MsgD.mil h2.small
  · rintro e w' ⟨rfl, ⟨F', hN, hF⟩, hc⟩
    refine ⟨rfl, h.prog hN hF hc ⟨by omega, ?_⟩ (fun x hx => ?_)⟩
    · have h3 := hr.2
      simp only [List.length_cons, List.length_nil] at h3
      omega
    · unfold sendL at hx
      rcases List.mem_append.1 hx with hx | hx
      · exact h.lok x hx
      · have hx := List.mem_of_mem_take hx
        simp at hx
        rcases hx with rfl | rfl
        · exact h1.small
        · exact h2.small
theorem Two.rsend {z1 z2 : LetZ} {g : Nat} {t : TypeId} (h : Two W w gN gR n ls zs bs) (hm : (g, Obj.cells (rawZ z1 ++ rawZ z2).toArray t (0, 0)) ∈ bs) (h1 : OkM W z1) (h2 : OkM W z2) :
    Calls Try.prog 14 #[.pointer (some ⟨gR, 0, none⟩), .slice (some ⟨g, 0, none⟩) 2 2] w fun e w' => e = .returned (.int .i64 (lostN (zs.map (·.x)) [z1.x, z2.x])) ∧ Two W w' gN gR n ls (sendZ zs [z1, z2]) bs := by
  obtain ⟨F, lost, A, c, h⟩ := h
  obtain ⟨hg1, hg2, hg3⟩ := h.bs _ hm
  refine (refSend w gR _ A c zs h.ref h.zl (some ⟨g, 0, none⟩) 2 [z1, z2] (fun w' hc => ?_) (by simp) (fun z hz => ?_)).mono ?_
  · have := C_of_some (d := kLR) rawZ id w' [z1, z2] (fun z hz => ?_) (fun _ => rfl) (g := g) (t := t) (fr := (0, 0)) ?_ (by simp)
    · simpa using this
    · simp at hz
      rcases hz with rfl | rfl
      · exact h1.okz
      · exact h2.okz
    · have := hc.blk hg1 hg2
      simpa using this
  · simp at hz
    rcases hz with rfl | rfl
    · exact h1.sl
    · exact h2.sl
  · rintro e w' ⟨rfl, ⟨A', c', hR⟩, hc⟩
    refine ⟨by rw [lostZ_map]; rfl, h.doc hR hc (sendZ_len _ _ h.zl) (fun z hz => ?_)⟩
    unfold sendZ at hz
    rcases List.mem_append.1 hz with hz | hz
    · exact h.zok z hz
    · have hz := List.mem_of_mem_take hz
      simp at hz
      rcases hz with rfl | rfl
      · exact h1
      · exact h2
theorem Two.dbl_no (h : Two W w gN gR n ls zs bs) (i : Int) (hno : ¬ (0 ≤ i ∧ i < ls.length ∧ ls.length < 128)) :
    Calls Try.prog 18 #[.pointer (some ⟨gN, 0, none⟩), .int .i64 i] w fun e w' => e = .returned (.bool false) ∧ w' = w := by
  obtain ⟨F, lost, A, c, h⟩ := h
  exact netDouble_no w gN F ls lost h.net i hno
theorem Two.rdbl_no (h : Two W w gN gR n ls zs bs) (i : Int) (hno : ¬ (0 ≤ i ∧ i < zs.length ∧ zs.length < 128)) :
    Calls Try.prog 19 #[.pointer (some ⟨gR, 0, none⟩), .int .i64 i] w fun e w' => e = .returned (.bool false) ∧ w' = w := by
  obtain ⟨F, lost, A, c, h⟩ := h
  exact refDouble_no w gR _ A c zs h.ref i hno
theorem Two.dbl (h : Two W w gN gR n ls zs bs) (i : Nat) (hi : i < ls.length) (hf : ls.length < 128) :
    Calls Try.prog 18 #[.pointer (some ⟨gN, 0, none⟩), .int .i64 (i : Int)] w fun e w' => e = .returned (.bool true) ∧ Two W w' gN gR n (ls ++ [ls[i]]) zs bs := by
  obtain ⟨F, lost, A, c, h⟩ := h
  have hs := h.lok _ (List.getElem_mem hi)
  refine (netDouble_ok w gN F ls lost h.net i hi hf _ rfl (MsgD.mil hs)).mono ?_
  rintro e w' ⟨rfl, ⟨F', hN, hF⟩, hc⟩
  refine ⟨rfl, h.prog hN hF hc h.lst (fun x hx => ?_)⟩
  rcases List.mem_append.1 hx with hx | hx
  · exact h.lok x hx
  · simp at hx
    rw [hx]
    exact hs
theorem Two.rdbl (h : Two W w gN gR n ls zs bs) (i : Nat) (hi : i < zs.length) (hf : zs.length < 128) :
    Calls Try.prog 19 #[.pointer (some ⟨gR, 0, none⟩), .int .i64 (i : Int)] w fun e w' => e = .returned (.bool true) ∧ Two W w' gN gR n ls (zs ++ [zs[i]]) bs := by
  obtain ⟨F, lost, A, c, h⟩ := h
  have hs := h.zok _ (List.getElem_mem hi)
  refine (refDouble_ok w gR _ A c zs h.ref i hi hf _ rfl hs.sl).mono ?_
  rintro e w' ⟨rfl, ⟨A', c', hR⟩, hc⟩
  refine ⟨rfl, h.doc hR hc (by simp; omega) (fun z hz => ?_)⟩
  rcases List.mem_append.1 hz with hz | hz
  · exact h.zok z hz
  · simp at hz
    rw [hz]
    exact hs
theorem Two.take_no (h : Two W w gN gR n ls zs bs) (i : Int) (hno : ¬ (0 ≤ i ∧ i < ls.length)) :
    Calls Try.prog 15 #[.pointer (some ⟨gN, 0, none⟩), .int .i64 i] w fun e w' => e = .returned (.tuple #[zeroV, .bool false]) ∧ Below w.heap.size w w' := by
  obtain ⟨F, lost, A, c, h⟩ := h
  exact take_noH _ w i (fun w' hb => netIs w' gN F ls lost (h.net.below hb) i false (by simp; omega))
theorem Two.rtake_no (h : Two W w gN gR n ls zs bs) (i : Int) (hno : ¬ (0 ≤ i ∧ i < zs.length)) :
    Calls Try.prog 16 #[.pointer (some ⟨gR, 0, none⟩), .int .i64 i] w fun e w' => e = .returned (.tuple #[zeroV, .bool false]) ∧ Below w.heap.size w w' := by
  obtain ⟨F, lost, A, c, h⟩ := h
  exact refTake_no w gR _ A c zs h.ref i hno
theorem Two.take (h : Two W w gN gR n ls zs bs) (i : Nat) (hi : i < ls.length) :
    Calls Try.prog 15 #[.pointer (some ⟨gN, 0, none⟩), .int .i64 (i : Int)] w fun e w' => ∃ A1 A2 c1 c2, e = .returned (.tuple #[letV ls[i] (.slice A1 (ls[i]).m.set.length c1) (.slice A2 (ls[i]).m.prs.length c2), .bool true]) ∧ MsgC w' (ls[i]).m A1 A2 c1 c2 ∧ Two W w' gN gR n (ls.eraseIdx i) zs bs := by
  obtain ⟨F, lost, A, c, h⟩ := h
  refine (netTake_ok w gN F ls lost h.net i hi (ls[i]).fr (ls[i]).dst (ls[i]).m rfl).mono ?_
  rintro e w' ⟨A1, A2, c1, c2, rfl, hm, ⟨F', hN, hF⟩, hc⟩
  exact ⟨A1, A2, c1, c2, rfl, hm, h.prog hN hF hc h.lst (fun x hx => h.lok x (List.mem_of_mem_eraseIdx hx))⟩
theorem Two.rtake (h : Two W w gN gR n ls zs bs) (i : Nat) (hi : i < zs.length) :
    Calls Try.prog 16 #[.pointer (some ⟨gR, 0, none⟩), .int .i64 (i : Int)] w fun e w' => ∃ A1 A2 c1 c2, e = .returned (.tuple #[letV (zs[i]).x (.slice A1 (zs[i]).x.m.set.length c1) (.slice A2 (zs[i]).x.m.prs.length c2), .bool true]) ∧ MsgC w' (zs[i]).x.m A1 A2 c1 c2 ∧ Two W w' gN gR n ls (zs.eraseIdx i) bs ∧ ∀ m B1 B2 d1 d2, MsgC w m B1 B2 d1 d2 → MsgC w' m B1 B2 d1 d2 := by
  obtain ⟨F, lost, A, c, h⟩ := h
  obtain ⟨A1, c1, A2, c2, h1, h2, hm, hs⟩ := h.zok _ (List.getElem_mem hi)
  obtain ⟨x, hx⟩ : ∃ x, x = (zs[i]).x := ⟨_, rfl⟩
  rw [← hx] at h1 h2 hm hs ⊢
  refine (refTake_ok w gR _ A c zs h.ref h.zl i hi x A1 c1 A2 c2 ?_).mono ?_
  · rw [← h1, ← h2, hx]
  · rintro e w' ⟨rfl, ⟨A', c', hR⟩, hc⟩
    have h9 : Two W w' gN gR n ls (zs.eraseIdx i) bs := h.doc hR hc (by rw [List.length_eraseIdx]; split <;> have := h.zl <;> omega) (fun z hz => h.zok z (List.mem_of_mem_eraseIdx hz))
    exact ⟨A1, A2, c1, c2, rfl, hm.below h9.low, h9, fun m B1 B2 d1 d2 hM => hM.far h.ref.blk hc⟩
theorem Two.list (h : Two W w gN gR n ls zs bs) :
    Calls Try.prog 20 #[.pointer (some ⟨gN, 0, none⟩)] w fun e w' => ∃ A c ys ow, e = .returned (.slice A ls.length c) ∧ ys.length = ls.length ∧ ListP w' w.heap.size (.slice A ls.length c) ys ow ∧ Kd.C kLet w' A ls.length ls ∧ (∀ z ∈ ys, z.x.m.set.length ≤ 1000000 ∧ z.x.m.prs.length ≤ 1000000) ∧ Below w.heap.size w w' := by
  obtain ⟨F, lost, A, c, h⟩ := h
  refine (netList w gN F ls lost h.net (fun x hx => MsgD.mil (h.lok x hx))).mono ?_
  rintro e w' ⟨v, ys, ow, rfl, hL, hm, hb⟩
  obtain ⟨A', c', rfl, hC⟩ := hL.reads
  have hl : ys.length = ls.length := by rw [← hm, List.length_map]
  rw [hm, hl] at hC
  rw [hl] at hL
  exact ⟨A', c', ys, ow, by rw [hl], hl, hL, hC, fun z hz => MsgD.mil (h.lok _ (by rw [← hm]; exact List.mem_map_of_mem hz)), hb⟩
theorem Two.llen (h : Two W w gN gR n ls zs bs) : Calls Try.prog 21 #[.pointer (some ⟨gN, 0, none⟩)] w fun e w' => e = .returned (.int .i64 ls.length) ∧ w' = w := by
  obtain ⟨F, lost, A, c, h⟩ := h
  exact netLen w gN F ls lost h.net
/-- The document's row, as letters. -/
theorem Two.row (h : Two W w gN gR n ls zs bs) : ∃ A c, w.heap[gR]? = some (.cells ([.slice A zs.length c] : List Value).toArray 30 (0, 0)) ∧ ∀ w', HeldN w w' → Kd.C kLet w' A zs.length (zs.map (·.x)) := by
  obtain ⟨F, lost, A, c, h⟩ := h
  refine ⟨A, c, h.ref.blk, fun w' hb => ?_⟩
  obtain ⟨h1, h2, h3⟩ := h.ref.row w' (Ch.of_below hb _)
  refine ⟨by rw [List.length_map], h2, fun hn => ?_⟩
  obtain ⟨ad, ea, hc⟩ := h3 hn
  refine ⟨ad, ea, fun j x hj => ?_⟩
  rw [List.getElem?_map] at hj
  obtain ⟨z, hz, rfl⟩ := Option.map_eq_some_iff.1 hj
  obtain ⟨cs, hl, hK, hcell⟩ := hc j z hz
  obtain ⟨rfl, _, _⟩ := hK
  exact ⟨rawZ z, rfl, (h.zok z (List.mem_of_getElem? hz)).let (below_then h.low h.low.size hb), hcell⟩
end
theorem two_start {W w : World} {gN gR : Nat} {F : Nat → Prop} (hN : NetR w gN F [] 0) (hF : ∀ k, F k → W.heap.size ≤ k) (hb : Below W.heap.size W w) (hR : w.heap[gR]? = some (.cells ([.slice none 0 0] : List Value).toArray 30 (0, 0))) (hn : ¬ F gR) (hg : W.heap.size ≤ gR) : Two W w gN gR 0 [] [] [] :=
  ⟨F, 0, none, 0, hN, ⟨hR, Nat.le_refl _, fun w' _ => Kd.C_nil _ _, .inl rfl, fun k hk => by rcases hk with rfl | hk; exact blk_lt' hR; exact hN.flt k hk⟩, hn, fun k hk => by rcases hk with rfl | hk; exact hg; exact hF k hk, ⟨Int.le_refl _, Int.le_refl _⟩, by simp, fun _ h => (List.not_mem_nil h).elim, fun _ h => (List.not_mem_nil h).elim, fun _ h => (List.not_mem_nil h).elim, hb⟩
end Go.Proofs.Ytkgbcoijkmlmnaa.K
