/- The stage beside other things; of no stage. -/
import Derived.Test.YtckjgfbfjjiikaaS4
import Derived.Test.YtckjgfbfjjiikaaS5
import Derived.Test.YtckjgfbfjjiikaaKL
import Derived.Deep.RegionHeld3
set_option linter.unusedVariables false
set_option linter.unusedSimpArgs false
set_option maxRecDepth 100000
namespace Go.Proofs.Ytckjgfbfjjiikaa.K
open Go.RowKit Go.Proofs.YtckjgfbfjjiikaaW.PrintWords Go.Proofs.YtckjgfbfjjiikaaW.PrintLast Go.Proofs.YtckjgfbfjjiikaaW.PrintMore Go.Proofs.Ytckjgfbfjjiikaa.U Go.Proofs.Ytckjgfbfjjiikaa.T

theorem two_ands (w w1 w2 : World) (h : Below w.heap.size w w1) (k : Below w1.heap.size w1 w2) : Below w.heap.size w w2 := below_then h h.size k
instance (M : Int → Int → List (List PairD)) (a b q : Int) : Decidable (okPut M a b q) := by unfold okPut; infer_instance
/-- What a Put answers; what stands then. -/
def putN (M : Int → Int → List (List PairD)) (a b q : Int) : Int := if okPut M a b q then (M a b).length + 1 else (M a b).length
def putKA (ks : List (Int × Int)) (M : Int → Int → List (List PairD)) (a b q : Int) : List (Int × Int) := if okPut M a b q then putK ks M a b else ks
def putMA (M : Int → Int → List (List PairD)) (a b q : Int) (ps : List PairD) : Int → Int → List (List PairD) := if okPut M a b q then putM M a b ps else M
/-- What may stand in a stage. -/
structure MOk (ks : List (Int × Int)) (M : Int → Int → List (List PairD)) : Prop where
  rng : ∀ p ∈ ks, 0 ≤ p.1 ∧ p.1 < 6 ∧ 1 ≤ p.2 ∧ p.2 ≤ 3
  nd : ks.Nodup
  len : ∀ a b, (M a b).length ≤ 40
  chunk : ∀ a b, ∀ l ∈ M a b, l.length ≤ 20
  mem : ∀ a b, (a, b) ∈ ks ↔ M a b ≠ []
theorem MOk.none : MOk [] (fun _ _ => []) := ⟨by simp, List.nodup_nil, by simp, by simp, by simp⟩
theorem MOk.put {ks : List (Int × Int)} {M : Int → Int → List (List PairD)} (h : MOk ks M) (a b q : Int) (ps : List PairD) (hp : ps.length ≤ 20) : MOk (putKA ks M a b q) (putMA M a b q ps) := by
  unfold putKA putMA
  by_cases ho : okPut M a b q
  · rw [if_pos ho, if_pos ho]
    have ho' := ho
    obtain ⟨h1, h2, h3, h4, h5, h6⟩ := ho
    have hk : ∀ x y, (x, y) ∈ putK ks M a b ↔ (x, y) ∈ ks ∨ (x = a ∧ y = b) := fun x y => by
      unfold putK
      split
      · rw [List.mem_append, List.mem_singleton, Prod.mk.injEq]
      · rename_i hne
        constructor
        · exact .inl
        · rintro (h | ⟨rfl, rfl⟩)
          · exact h
          · exact (h.mem _ _).2 hne
    refine ⟨?_, ?_, ?_, ?_, ?_⟩
    · rintro ⟨x, y⟩ hp
      rcases (hk x y).1 hp with hp | ⟨rfl, rfl⟩
      · exact h.rng _ hp
      · exact ⟨h2, h3, h4, h5⟩
    · unfold putK
      split
      · rename_i he
        exact List.nodup_append.2 ⟨h.nd, by simp, by intro x hx y hy; rw [List.mem_singleton.1 hy]; rintro rfl; exact (h.mem _ _).1 hx he⟩
      · exact h.nd
    · intro x y
      unfold putM
      split
      · rw [List.length_append, List.length_singleton]; omega
      · exact h.len x y
    · intro x y l hl
      unfold putM at hl
      split at hl
      · rcases List.mem_append.1 hl with hl | hl
        · exact h.chunk _ _ l hl
        · rw [List.mem_singleton.1 hl]; exact hp
      · exact h.chunk _ _ l hl
    · intro x y
      rw [hk, h.mem]
      unfold putM
      by_cases he : x = a ∧ y = b
      · rw [if_pos he]; simp [he]
      · rw [if_neg he]; simp [he]
  · rw [if_neg ho, if_neg ho]
    exact h
theorem MOk.drop {ks : List (Int × Int)} {M : Int → Int → List (List PairD)} (h : MOk ks M) (s : Int) : MOk (dropK ks s) (dropM M s) := by
  refine ⟨?_, ?_, ?_, ?_, ?_⟩
  · exact fun p hp => h.rng p (List.mem_filter.1 hp).1
  · exact h.nd.sublist List.filter_sublist
  · intro a b; unfold dropM; split; exact Nat.zero_le _; exact h.len a b
  · intro a b l hl; unfold dropM at hl; split at hl; cases hl; exact h.chunk a b l hl
  · intro a b
    unfold dropK dropM
    rw [List.mem_filter, h.mem]
    by_cases he : a = s
    · simp [he]
    · simp [he]
theorem two_filters (l : List Nat) (n : Nat) : l.length = (l.filter (fun x => x == n)).length + (l.filter (fun x => x != n)).length := by
  induction l with
  | nil => rfl
  | cons a l ih => by_cases h : a = n <;> simp [h] at * <;> omega
theorem nodup_nat (n : Nat) : ∀ l : List Nat, l.Nodup → (∀ x ∈ l, x < n) → l.length ≤ n := by
  induction n with
  | zero =>
    intro l _ h
    cases l with
    | nil => exact Nat.le_refl _
    | cons x l => exact absurd (h x (List.mem_cons_self ..)) (Nat.not_lt_zero _)
  | succ n ih =>
    intro l hn h
    have h1 := ih (l.filter (fun x => x != n)) (hn.sublist List.filter_sublist) (fun x hx => by
      have h2 := List.mem_filter.1 hx
      have h3 := h x h2.1
      have h4 : x ≠ n := by simpa using h2.2
      omega)
    have h2 : (l.filter (fun x => x == n)).length ≤ 1 := by
      have hc := List.nodup_iff_count.1 hn n
      rwa [List.count_eq_length_filter] at hc
    have h3 := two_filters l n
    omega
theorem MOk.most {ks : List (Int × Int)} {M : Int → Int → List (List PairD)} (h : MOk ks M) : ks.length ≤ 18 := by
  have h1 := nodup_nat 18 (ks.map (fun p => (p.1 * 3 + p.2 - 1).toNat)) ?_ ?_
  · simpa using h1
  · have h2 := h.nd
    rw [List.nodup_iff_pairwise_ne] at h2 ⊢
    rw [List.pairwise_map]
    refine List.Pairwise.imp_of_mem ?_ h2
    rintro ⟨a, b⟩ ⟨c, d⟩ h3 h4 hne he
    have h5 := h.rng _ h3
    have h6 := h.rng _ h4
    apply hne
    simp only [Prod.mk.injEq] at *
    omega
  · intro x hx
    obtain ⟨p, hp, rfl⟩ := List.mem_map.1 hx
    have := h.rng p hp
    omega
theorem flat_le (l : List (List PairD)) (h : ∀ x ∈ l, x.length ≤ 20) : l.flatten.length ≤ 20 * l.length := by
  induction l with
  | nil => simp
  | cons x l ih =>
    rw [List.flatten_cons, List.length_append, List.length_cons]
    have h1 := h x (List.mem_cons_self ..)
    have h2 := ih (fun y hy => h y (List.mem_cons_of_mem _ hy))
    omega
theorem MOk.flat {ks : List (Int × Int)} {M : Int → Int → List (List PairD)} (h : MOk ks M) (a b : Int) : (M a b).flatten.length ≤ 800 := by
  have h1 := flat_le (M a b) (h.chunk a b)
  have h2 := h.len a b
  omega

/-- The stage, in blocks from B on that are not X's. -/
def Sta (w : World) (gs B : Nat) (X : Nat → Prop) (ks : List (Int × Int)) (M : Int → Int → List (List PairD)) : Prop := ∃ F, StaR w gs F ks M ∧ ∀ k, F k → B ≤ k ∧ ¬ X k
section
variable {w w' : World} {gs B : Nat} {X X' S : Nat → Prop} {ks : List (Int × Int)} {M : Int → Int → List (List PairD)}
theorem Sta.below (h : Sta w gs B X ks M) (hb : Below w.heap.size w w') : Sta w' gs B X ks M := by
  obtain ⟨F, h, hF⟩ := h
  exact ⟨F, h.below hb, hF⟩
/-- Others' blocks change, or come up. -/
theorem Sta.ch (h : Sta w gs B X ks M) (hc : Ch w w' S) (hS : ∀ k, S k → k < w.heap.size → X k ∨ k < B) (hX : ∀ k, X' k → X k ∨ w.heap.size ≤ k) : Sta w' gs B X' ks M := by
  obtain ⟨F, h, hF⟩ := h
  refine ⟨F, h.ch hc (fun k hk hs => ?_), fun k hk => ⟨(hF k hk).1, fun hx => ?_⟩⟩
  · have h1 := h.flt k hk
    rcases hS k hs h1 with h2 | h2
    · exact (hF k hk).2 h2
    · have := (hF k hk).1; omega
  · have h1 := h.flt k hk
    rcases hX k hx with h2 | h2
    · exact (hF k hk).2 h2
    · omega
end
section
variable (w : World) (gs B : Nat) (X : Nat → Prop) (ks : List (Int × Int)) (M : Int → Int → List (List PairD)) (h : Sta w gs B X ks M)
include h
theorem staNext (a b : Int) : Calls Try.prog 39 #[.pointer (some ⟨gs, 0, none⟩), .int .i64 a, .int .i64 b] w fun e w' => e = .returned (.int .i64 (M a b).length) ∧ w' = w := by
  obtain ⟨F, h, hF⟩ := h
  exact stNext w gs F ks M h a b
theorem staCount : Calls Try.prog 38 #[.pointer (some ⟨gs, 0, none⟩)] w fun e w' => e = .returned (.int .i64 ks.length) ∧ w' = w := by
  obtain ⟨F, h, hF⟩ := h
  exact stCount w gs F ks M h
theorem staPut (hX : ∀ k, X k → k < w.heap.size) (hB : B ≤ w.heap.size) (a b q : Int) (A : Option Addr) (ps : List PairD) (c : Nat) (hC : Kd.C kPair w A ps.length ps) (hl : ps.length ≤ 1000) :
    Calls Try.prog 29 #[.pointer (some ⟨gs, 0, none⟩), .int .i64 a, .int .i64 b, .int .i64 q, .slice A ps.length c] w fun e w' => e = .returned (.int .i64 (putN M a b q)) ∧ Sta w' gs B X (putKA ks M a b q) (putMA M a b q ps) ∧ Ch w w' (fun k => B ≤ k ∧ ¬ X k) := by
  obtain ⟨F, h, hF⟩ := h
  unfold putN putKA putMA
  by_cases ho : okPut M a b q
  · rw [if_pos ho, if_pos ho, if_pos ho]
    refine (stPut_ok w gs F ks M h a b q A ps c hC hl ho).mono ?_
    rintro e w' ⟨F', rfl, h1, h2, h3⟩
    refine ⟨rfl, ⟨F', h1, fun k hk => ?_⟩, h3.mono hF⟩
    rcases h2 k hk with h4 | h4
    · exact hF k h4
    · exact ⟨Nat.le_trans hB h4, fun hx => by have := hX k hx; omega⟩
  · rw [if_neg ho, if_neg ho, if_neg ho]
    refine (stPut_no w gs F ks M h a b q A ps.length c ho).mono ?_
    rintro e w' ⟨rfl, hb⟩
    exact ⟨rfl, ⟨F, h.below hb, hF⟩, Ch.of_below hb _⟩
theorem staDrop (hks : ks.length ≤ 1000) (s : Int) : Calls Try.prog 36 #[.pointer (some ⟨gs, 0, none⟩), .int .i64 s] w fun e w' => e = .returned (.int .i64 ((ks.length : Int) - (dropK ks s).length)) ∧ Sta w' gs B X (dropK ks s) (dropM M s) ∧ Ch w w' (fun k => B ≤ k ∧ ¬ X k) := by
  obtain ⟨F, h, hF⟩ := h
  refine (stDrop w gs F ks M h s hks).mono ?_
  rintro e w' ⟨rfl, h1, h2⟩
  exact ⟨rfl, ⟨F, h1, hF⟩, h2.mono hF⟩
theorem staTake_no (a b n : Int) (hn : n ≠ (M a b).length) : Calls Try.prog 33 #[.pointer (some ⟨gs, 0, none⟩), .int .i64 a, .int .i64 b, .int .i64 n] w fun e w' => e = .returned (.tuple #[.slice none 0 0, .bool false]) ∧ w' = w := by
  obtain ⟨F, h, hF⟩ := h
  exact stTake_no w gs F ks M h a b n hn
theorem staTake_ok (a b n : Int) (hn : n = (M a b).length) (hl : (M a b).flatten.length ≤ 100000000) : Calls Try.prog 33 #[.pointer (some ⟨gs, 0, none⟩), .int .i64 a, .int .i64 b, .int .i64 n] w fun e w' => ∃ v Y, e = .returned (.tuple #[v, .bool true]) ∧ Own kPair 80 w' w.heap.size v Y ∧ Aside0 (Y = (M a b).flatten) ∧ Below w.heap.size w w' := by
  obtain ⟨F, h, hF⟩ := h
  rw [hn]
  exact stTake_ok w gs F ks M h a b hl
end
theorem staNew (w : World) (X : Nat → Prop) (hX : ∀ k, X k → k < w.heap.size) (B : Nat) (hB : B ≤ w.heap.size) : Calls Try.prog 27 #[] w fun e w' => ∃ gs, e = .returned (.pointer (some ⟨gs, 0, none⟩)) ∧ Sta w' gs B X [] (fun _ _ => []) ∧ Below w.heap.size w w' := by
  refine (stNew w).mono ?_
  rintro e w' ⟨gs, F, rfl, h, hF, hb⟩
  exact ⟨gs, rfl, ⟨F, h, fun k hk => ⟨Nat.le_trans hB (hF k hk), fun hx => by have := hX k hx; have := hF k hk; omega⟩⟩, hb⟩

theorem stNext_nil (w : World) (a b : Int) : Calls Try.prog 39 #[.pointer none, .int .i64 a, .int .i64 b] w fun e w' => e = .returned (.int .i64 0) ∧ w' = w := by
  go_enter Try.func39, Try.ntmps39
  go_wp2_with fail
  go_ret
  exact ⟨rfl, rfl⟩
theorem stCount_nil (w : World) : Calls Try.prog 38 #[.pointer none] w fun e w' => e = .returned (.int .i64 0) ∧ w' = w := by
  go_enter Try.func38, Try.ntmps38
  go_wp2_with fail
  go_ret
  exact ⟨rfl, rfl⟩
theorem stDrop_nil (w : World) (a : Int) : Calls Try.prog 36 #[.pointer none, .int .i64 a] w fun e w' => e = .returned (.int .i64 0) ∧ w' = w := by
  go_enter Try.func36, Try.ntmps36
  go_wp2_with fail
  go_ret
  exact ⟨rfl, rfl⟩
theorem stTake_nil (w : World) (a b c : Int) : Calls Try.prog 33 #[.pointer none, .int .i64 a, .int .i64 b, .int .i64 c] w fun e w' => e = .returned (.tuple #[.slice none 0 0, .bool false]) ∧ w' = w := by
  go_enter Try.func33, Try.ntmps33
  go_wp2_with fail
  go_ret2
  exact ⟨rfl, rfl⟩
theorem stPut_nil (w : World) (a b c : Int) (v : Value) : Calls Try.prog 29 #[.pointer none, .int .i64 a, .int .i64 b, .int .i64 c, v] w fun e w' => e = .returned (.int .i64 0) ∧ Below w.heap.size w w' := by
  go_enter Try.func29, Try.ntmps29
  go_wp2_with fail
  refine (stNext_nil _ a b).mono ?_
  rintro e w1 ⟨rfl, rfl⟩
  go_wp2_with fail
  go_ret
  exact ⟨rfl, (Below.refl _ _).alloc (Nat.le_refl _) _⟩

def pA : PairD := ⟨⟨#[97]⟩, ⟨#[]⟩⟩
def pC : PairD := ⟨⟨#[99]⟩, ⟨#[]⟩⟩
def Mz : Int → Int → List (List PairD) := fun _ _ => []
def Ma : Int → Int → List (List PairD) := putMA Mz 2 1 0 [pA]
def Mb : Int → Int → List (List PairD) := putMA Ma 2 1 0 [pC]
def Mc : Int → Int → List (List PairD) := putMA Mb 2 1 1 [pC]
def Ka : List (Int × Int) := putKA [] Mz 2 1 0
def Kb : List (Int × Int) := putKA Ka Ma 2 1 0
def Kc : List (Int × Int) := putKA Kb Mb 2 1 1
theorem ma_at : Ma 2 1 = [[pA]] := by unfold Ma putMA; rw [if_pos (by unfold okPut Mz; decide)]; rfl
theorem mb_at : Mb 2 1 = [[pA]] := by unfold Mb putMA; rw [if_neg (by unfold okPut; rw [ma_at]; decide)]; exact ma_at
theorem mc_at : Mc 2 1 = [[pA], [pC]] := by unfold Mc putMA; rw [if_pos (by unfold okPut; rw [mb_at]; decide)]; unfold putM; rw [if_pos ⟨rfl, rfl⟩, mb_at]; rfl
theorem ka_is : Ka = [(2, 1)] := by unfold Ka putKA; rw [if_pos (by unfold okPut Mz; decide)]; rfl
theorem kb_is : Kb = [(2, 1)] := by unfold Kb putKA; rw [if_neg (by unfold okPut; rw [ma_at]; decide)]; exact ka_is
theorem kc_is : Kc = [(2, 1)] := by unfold Kc putKA; rw [if_pos (by unfold okPut; rw [mb_at]; decide)]; unfold putK; rw [if_neg (by rw [mb_at]; simp)]; exact kb_is
theorem na : putN Mz 2 1 0 = 1 := by unfold putN; rw [if_pos (by unfold okPut Mz; decide)]; rfl
theorem nb : putN Ma 2 1 0 = 1 := by unfold putN; rw [if_neg (by unfold okPut; rw [ma_at]; decide), ma_at]; rfl
theorem nc : putN Mb 2 1 1 = 2 := by unfold putN; rw [if_pos (by unfold okPut; rw [mb_at]; decide), mb_at]; rfl
theorem wanted_on' {ops : Array Oper} {o og : Oper} {a : Act} {g t : Nat} {u : Bool} (hg : o.guard = some (g, u)) (ho : ops[g]? = some og) (hd : og.dst = some t) (hv : a.tmps[t]? = some (.bool u)) : Region.wanted o (yielded ops a.tmps) = true := by
  simp [Region.wanted, hg, yielded, ho, hd, hv]
theorem wpList_appg_runs {P : Program} {w : World} {ops : Array Oper} {rest : List Oper} {o : Oper} {a : Act} {Q : Exit → Act → World → Prop} {R : Value → World → Prop} (hw : Region.wanted o (yielded ops a.tmps) = true) (s x : Operand) (t t' : TypeId)
    (ho : o.op = .call { callee := .builtin .append, args := #[s, x], argTypes := #[t, t'] }) (vs vx : Value) (hs : a.eval s = vs) (hx : a.eval x = vx)
    (h : Runs P (Builtin.append_ #[t, t'] o.type #[vs, vx]) w R) (k : ∀ v w', R v w' → wpList P ops Q rest (a.put o.dst v) w') : wpList P ops Q (o :: rest) a w := by
  refine wpList_step fun _ hK => ?_
  rw [if_pos hw]
  obtain ⟨v, w', hr, hR⟩ := h
  unfold Oper.wp execOp
  simp only [ho, resolve, invoke, builtin, Sem.run_bind, Sem.run_pure, Result.andThen_ok, List.map_toArray, List.map_cons, List.map_nil, hs, hx, hr]
  exact hK _ _ (k v w' hR)
/-- A literal row of one pair. -/
theorem one_pair (w : World) (p : PairD) : Own kPair 80 (w.alloc (.cells #[.string p.key, .string p.val] 80)) w.heap.size (.slice (some ⟨w.heap.size, 0, none⟩) 1 1) [p] := by
  have h := alloc_at w (.cells #[.string p.key, .string p.val] 80)
  exact ⟨fun _ _ => trivial, [.string p.key, .string p.val], ⟨rfl, .inr ⟨w.heap.size, 1, _, rfl, Nat.le_refl _, h, Nat.le_refl _, by unfold maxLen; omega, rfl, rfl⟩⟩, ⟨rfl, fun j q hj => by
    cases j with
    | zero => injection hj with hj; subst hj; exact kPair_mkM _ _ _ _
    | succ j => simp at hj⟩⟩
set_option maxHeartbeats 1600000 in
theorem awake18 (w : World) : Calls Try.prog 26 #[] w fun e w' => e = .returned (.bool true) ∧ Below w.heap.size w w' := by
  go_enter Try.func26, Try.ntmps26
  go_wp2_with fail
  refine (staNew w (fun _ => False) (fun _ h => h.elim) w.heap.size (Nat.le_refl _)).mono ?_
  rintro e w1 ⟨gs, rfl, h1, hb1⟩
  have H1 := Aside0.mk h1
  have HB1 := Aside0.mk hb1
  clear h1 hb1
  obtain ⟨gA, hgA⟩ : ∃ g, g = w1.heap.size := ⟨_, rfl⟩
  obtain ⟨gC, hgC⟩ : ∃ g, g = w1.heap.size + 1 := ⟨_, rfl⟩
  obtain ⟨w2, hw2⟩ : ∃ w2, w2 = w1.alloc (.cells #[.string ⟨#[97]⟩, .string ⟨#[]⟩] 80) := ⟨_, rfl⟩
  have hsz2 : w2.heap.size = gC := by rw [hw2, hgC]; exact World.size_alloc _ _
  have hA : Own kPair 80 w2 gA (.slice (some ⟨gA, 0, none⟩) 1 1) [pA] := by rw [hw2, hgA]; exact one_pair w1 pA
  have hb2 := (Below.refl w1.heap.size w1).alloc (Nat.le_refl _) (.cells #[.string ⟨#[97]⟩, .string ⟨#[]⟩] 80)
  rw [← hw2] at hb2
  obtain ⟨w3, hw3⟩ : ∃ w3, w3 = w2.alloc (.cells #[.string ⟨#[99]⟩, .string ⟨#[]⟩] 80) := ⟨_, rfl⟩
  have hC : Own kPair 80 w3 gC (.slice (some ⟨gC, 0, none⟩) 1 1) [pC] := by rw [hw3, ← hsz2]; exact one_pair w2 pC
  have hb3 := (Below.refl w2.heap.size w2).alloc (Nat.le_refl _) (.cells #[.string ⟨#[99]⟩, .string ⟨#[]⟩] 80)
  rw [← hw3] at hb3
  have hA3 := hA.below hb3
  obtain ⟨X, hX⟩ : ∃ X : Nat → Prop, X = fun k => k = gA ∨ k = gC := ⟨_, rfl⟩
  have HXA : Aside0 (X gA) := ⟨by rw [hX]; exact .inl rfl⟩
  have HXC : Aside0 (X gC) := ⟨by rw [hX]; exact .inr rfl⟩
  have HGB : Aside0 (w.heap.size ≤ gA) := ⟨by have := HB1.out.size; omega⟩
  have HXL : Aside0 (∀ k, X k → k < w3.heap.size) := ⟨fun k hk => by
    rw [hX] at hk
    rcases hk with e | e
    · rw [e]; exact hA3.lt gA rfl
    · rw [e]; exact hC.lt gC rfl⟩
  have HB3 := Aside0.mk (two_ands _ _ _ (two_ands _ _ _ HB1.out hb2) hb3)
  have H3 : Aside0 (Sta w3 gs w.heap.size X [] Mz) := ⟨Sta.ch (S := fun _ => False) H1.out (Ch.of_below (two_ands _ _ _ hb2 hb3) _) (fun _ h => h.elim) (fun k hk => .inr (by rw [hX] at hk; omega))⟩
  have HA := Aside0.mk hA3
  have HC := Aside0.mk hC
  have HGA := Aside0.mk hgA
  have HGC := Aside0.mk hgC
  have HW2 := Aside0.mk hw2
  have HW3 := Aside0.mk hw3
  have HSZ : Aside0 (w.heap.size ≤ w3.heap.size) := ⟨HB3.out.size⟩
  clear hA hb2 hC hb3 hgA hgC hw2 hw3 hX hsz2 hA3
  go_upto_region 5 with (fail)
  rw [← HGC.out, ← HGA.out, ← HW2.out, ← HW3.out]
  clear HW2 HW3 HGA HGC
  go_wp2_with fail
  refine (staPut w3 gs w.heap.size X [] Mz H3.out HXL.out HSZ.out 2 1 0 (some ⟨gA, 0, none⟩) [pA] 1 HA.out.is.2.2 (by decide)).mono ?_
  rintro e w4 ⟨rfl, h4, hc4⟩
  rw [na]
  have H4 : Aside0 (Sta w4 gs w.heap.size X Ka Ma) := ⟨h4⟩
  have HC4 := Aside0.mk (HC.out.ch flat_pair hc4 (fun k hk h => h.2 ((Option.some.inj hk : gC = k) ▸ HXC.out)))
  have HA4 := Aside0.mk (HA.out.ch flat_pair hc4 (fun k hk h => h.2 ((Option.some.inj hk : gA = k) ▸ HXA.out)))
  have HB4 := Aside0.mk (Below.ch HB3.out hc4 HSZ.out (fun k hk => hk.1))
  have HXL4 : Aside0 (∀ k, X k → k < w4.heap.size) := ⟨fun k hk => Nat.lt_of_lt_of_le (HXL.out k hk) hc4.size⟩
  clear h4 hc4
  go_wp2_with fail
  refine (staPut w4 gs w.heap.size X Ka Ma H4.out HXL4.out HB4.out.size 2 1 0 (some ⟨gC, 0, none⟩) [pC] 1 HC4.out.is.2.2 (by decide)).mono ?_
  rintro e w5 ⟨rfl, h5, hc5⟩
  rw [nb]
  have H5 : Aside0 (Sta w5 gs w.heap.size X Kb Mb) := ⟨h5⟩
  have HC5 := Aside0.mk (HC4.out.ch flat_pair hc5 (fun k hk h => h.2 ((Option.some.inj hk : gC = k) ▸ HXC.out)))
  have HA5 := Aside0.mk (HA4.out.ch flat_pair hc5 (fun k hk h => h.2 ((Option.some.inj hk : gA = k) ▸ HXA.out)))
  have HB5 := Aside0.mk (Below.ch HB4.out hc5 HB4.out.size (fun k hk => hk.1))
  have HXL5 : Aside0 (∀ k, X k → k < w5.heap.size) := ⟨fun k hk => Nat.lt_of_lt_of_le (HXL4.out k hk) hc5.size⟩
  clear h5 hc5
  go_wp2_with fail
  refine (staPut w5 gs w.heap.size X Kb Mb H5.out HXL5.out HB5.out.size 2 1 1 (some ⟨gC, 0, none⟩) [pC] 1 HC5.out.is.2.2 (by decide)).mono ?_
  rintro e w6 ⟨rfl, h6, hc6⟩
  rw [nc]
  have H6 : Aside0 (Sta w6 gs w.heap.size X Kc Mc) := ⟨h6⟩
  have HC6 := Aside0.mk (HC5.out.ch flat_pair hc6 (fun k hk h => h.2 ((Option.some.inj hk : gC = k) ▸ HXC.out)))
  have HA6 := Aside0.mk (HA5.out.ch flat_pair hc6 (fun k hk h => h.2 ((Option.some.inj hk : gA = k) ▸ HXA.out)))
  have HB6 := Aside0.mk (Below.ch HB5.out hc6 HB5.out.size (fun k hk => hk.1))
  clear h6 hc6
  go_wp2_with fail
  refine (staTake_ok w6 gs w.heap.size X Kc Mc H6.out 2 1 2 (by rw [mc_at]; rfl) (by rw [mc_at]; decide)).mono ?_
  rintro e w7 ⟨v7, Y, rfl, hv7, HY, hb7⟩
  obtain ⟨A7, c7, rfl, hle7, _⟩ := hv7.reads
  have hY : Y = [pA, pC] := by rw [HY.out, mc_at]; rfl
  subst hY
  have H7 := Aside0.mk (H6.out.below hb7)
  have HV7 := Aside0.mk hv7
  have HA7 := Aside0.mk (HA6.out.below hb7)
  have HC7 := Aside0.mk (HC6.out.below hb7)
  have HB7 := Aside0.mk (two_ands _ _ _ HB6.out hb7)
  have HLE7 : Aside0 (gA ≤ w7.heap.size) := ⟨Nat.le_of_lt (HA7.out.lt gA rfl)⟩
  clear hv7 HY hb7 hle7
  go_wp2_with (at_builtin; (refine wpList_appg_runs (wanted_on' rfl rfl rfl rfl) _ _ _ _ rfl _ _ rfl rfl (append_own_runs Try.prog flat_pair 45 _ _ 32 Try.underlying45 info_pair rfl (by decide) HA7.out (some ⟨gC, 0, none⟩) 1 1 rfl HC7.out.is.2.2 HLE7.out (by decide) (by decide)) ?_); rintro v8 w8 ⟨hv8, hg8⟩; obtain ⟨A8, c8, rfl, hle8, _⟩ := hv8.reads; have HV8 := Aside0.mk hv8; have HG8 := Aside0.mk hg8; clear hv8 hg8 hle8)
  have hgA6 : gA < w6.heap.size := HA6.out.lt gA rfl
  have hV8' := HV7.out.other flat_pair HG8.out (fun k hk e => by have h1 := HV7.out.base_ k hk; have h2 : gA = k := Option.some.inj e; omega)
  have HVS := Aside0.mk hV8'.is.2.2
  have hc8 := Ch.of_grown (S := fun k => k = gA) HG8.out (fun k hk => (Option.some.inj hk : gA = k).symm)
  have H8 : Aside0 (Sta w8 gs w.heap.size X Kc Mc) := ⟨Sta.ch H7.out hc8 (fun k hk _ => .inl (by rw [hk]; exact HXA.out)) (fun k hk => .inl hk)⟩
  have HB8 := Aside0.mk (Below.ch HB7.out hc8 HB7.out.size (fun k hk => by rw [hk]; exact HGB.out))
  clear hgA6 hV8' hc8
  refine (samePairs A7 c7 [pA, pC] A8 c8 [pA, pC] w8 HVS.out HV8.out.is.2.2 true (by simp)).mono ?_
  rintro e w9 ⟨rfl, hb9⟩
  have H9 := Aside0.mk (H8.out.below hb9)
  have HB9 := Aside0.mk (two_ands _ _ _ HB8.out hb9)
  clear hb9
  go_wp2_with fail
  refine (staDrop w9 gs w.heap.size X Kc Mc H9.out (by rw [kc_is]; decide) 2).mono ?_
  rintro e w10 ⟨rfl, h10, hc10⟩
  have e1 : ((Kc.length : Int) - (dropK Kc 2).length) = 1 := by rw [kc_is]; rfl
  rw [e1]
  have H10 := Aside0.mk h10
  have HB10 := Aside0.mk (Below.ch HB9.out hc10 HB9.out.size (fun k hk => hk.1))
  clear h10 hc10 e1
  go_wp2_with fail
  refine (staCount w10 gs w.heap.size X _ _ H10.out).mono ?_
  rintro e w10 ⟨rfl, rfl⟩
  have e2 : (((dropK Kc 2).length : Nat) : Int) = 0 := by rw [kc_is]; rfl
  rw [e2]
  clear e2
  go_wp2_with fail
  go_ret
  exact ⟨rfl, HB10.out⟩
end Go.Proofs.Ytckjgfbfjjiikaa.K
