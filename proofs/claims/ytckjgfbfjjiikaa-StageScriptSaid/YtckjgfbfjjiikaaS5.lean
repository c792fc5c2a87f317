/- The stage: what is kept is taken; what is dropped. -/
import Derived.Test.YtckjgfbfjjiikaaS3
set_option linter.unusedVariables false
set_option linter.unusedSimpArgs false
set_option maxRecDepth 100000
namespace Go.Proofs.Ytckjgfbfjjiikaa.K
open Go.RowKit Go.Proofs.YtckjgfbfjjiikaaW.PrintWords Go.Proofs.YtckjgfbfjjiikaaW.PrintLast Go.Proofs.YtckjgfbfjjiikaaW.PrintMore Go.Proofs.Ytckjgfbfjjiikaa.U Go.Proofs.Ytckjgfbfjjiikaa.T
open Go.ChangeMaps (setBlock)

theorem stTake_no (w : World) (gs : Nat) (F : Nat → Prop) (ks : List (Int × Int)) (M : Int → Int → List (List PairD)) (h : StaR w gs F ks M) (a b n : Int) (hn : n ≠ (M a b).length) :
    Calls Try.prog 33 #[.pointer (some ⟨gs, 0, none⟩), .int .i64 a, .int .i64 b, .int .i64 n] w fun e w' => e = .returned (.tuple #[.slice none 0 0, .bool false]) ∧ w' = w := by
  obtain ⟨m, hm⟩ : ∃ m, m = (M a b).length := ⟨_, rfl⟩
  have hN := stNext w gs F ks M h a b
  rw [← hm] at hN hn
  have HN := Aside0.mk hN
  clear hN hm h
  by_cases h0 : n < 0
  · go_enter Try.func33, Try.ntmps33
    go_wp2_with fail
    go_ret2
    exact ⟨rfl, rfl⟩
  · have hb : ((m : Int) != n) = true := bne_iff_ne.2 (fun e => hn e.symm)
    go_enter Try.func33, Try.ntmps33
    go_wp2_with fail
    refine HN.out.mono ?_
    rintro e w1 ⟨rfl, rfl⟩
    go_wp2_with fail
    go_ret2
    exact ⟨rfl, rfl⟩
theorem stTake_ok (w : World) (gs : Nat) (F : Nat → Prop) (ks : List (Int × Int)) (M : Int → Int → List (List PairD)) (h : StaR w gs F ks M) (a b : Int) (hl : (M a b).flatten.length ≤ 100000000) :
    Calls Try.prog 33 #[.pointer (some ⟨gs, 0, none⟩), .int .i64 a, .int .i64 b, .int .i64 (M a b).length] w fun e w' => ∃ v X, e = .returned (.tuple #[v, .bool true]) ∧ Own kPair 80 w' w.heap.size v X ∧ Aside0 (X = (M a b).flatten) ∧ Below w.heap.size w w' := by
  have hN := stNext w gs F ks M h a b
  obtain ⟨gr, own, L, clock, h⟩ := h
  obtain ⟨A, c, hlv, hle, hC⟩ := h.look a b
  have hlk := lookup_run h.map a b
  rw [show ((findAt a b L 0).map (·.2)).getD nilS = lookV L a b from rfl, hlv] at hlk
  unfold keyV at hlk
  have hc0 : w.cell? ⟨gs, 0, none⟩ = some (.map (some gr)) := cell_of_blk h.blk
  have hj := joinC A c (M a b) w hC hl
  obtain ⟨xss, hx⟩ : ∃ x, x = M a b := ⟨_, rfl⟩
  rw [← hx] at hN hlk hj hle
  rw [← hx]
  have hb : ((xss.length : Int) != (xss.length : Int)) = false := by simp
  have HN := Aside0.mk hN
  have HJ := Aside0.mk hj
  clear hN hj hlv h hC hx
  go_enter Try.func33, Try.ntmps33
  go_wp2_with fail
  refine HN.out.mono ?_
  rintro e w1 ⟨rfl, rfl⟩
  go_wp2_with fail
  refine HJ.out.mono ?_
  rintro e w2 ⟨v2, X2, rfl, hv2, hX2, hb2⟩
  have HV2 := Aside0.mk hv2
  have HB2 := Aside0.mk hb2
  clear hv2 hb2
  go_wp2_with fail
  go_ret2
  exact ⟨_, X2, rfl, HV2.out, hX2, HB2.out⟩
/-- What is left when a split is dropped. -/
def dropM (M : Int → Int → List (List PairD)) (s : Int) : Int → Int → List (List PairD) := fun x y => if x = s then [] else M x y
def dropK (ks : List (Int × Int)) (s : Int) : List (Int × Int) := ks.filter (fun k => k.1 != s)
theorem step_delete_eq {P : Program} {ops : Array Oper} {o : Oper} {a : Act} {W : World} {Kc : Act → World → Prop} {Q : Exit → Act → World → Prop} (hw : Region.wanted o (yielded ops a.tmps) = true) (s x : Operand) (t k : TypeId)
    (ho : o.op = .call { callee := .builtin .delete, args := #[s, x], argTypes := #[t, k] }) (vs vx v : Value) (w1 : World) (hs : a.eval s = vs) (hx : a.eval x = vx) (hr : (Builtin.delete_ #[t, k] o.type #[vs, vx]).run P W = .ok v w1) (h : Kc (a.put o.dst v) w1) :
    if Region.wanted o (yielded ops a.tmps) = true then Oper.wp P o a W Kc Q else Kc (a.put o.dst undef) W := by
  rw [if_pos hw]
  unfold Oper.wp execOp
  simp only [ho, resolve, invoke, builtin, Sem.run_bind, Sem.run_pure, Result.andThen_ok, List.map_toArray, List.map_cons, List.map_nil, hs, hx, hr]
  exact h
theorem setB_same {w : World} {r : Nat} {o : Obj} (h : w.heap[r]? = some o) (o' : Obj) : (setBlock w r o').heap[r]? = some o' := by
  have := blk_lt' h
  simp [setBlock, this]
theorem ch_setB {w : World} {r : Nat} {o : Obj} (h : w.heap[r]? = some o) (o' : Obj) : Ch w (setBlock w r o') (fun k => k = r) := ⟨rfl, rfl, rfl, by simp [setBlock], fun k _ hk => by simp [setBlock, Array.getElem?_setIfInBounds, Ne.symm hk]⟩
/-- What stands in the map while it is gone through. -/
def leftL (L : List Ent) (s : Int) (seen : List Nat) : List Ent := L.filter (fun e => !(e.a == s && seen.contains e.s))
def restL (L : List Ent) (seen : List Nat) : List Ent := L.filter (fun e => !seen.contains e.s)
theorem leftL_nil (L : List Ent) (s : Int) : leftL L s [] = L := by simp [leftL]
theorem mem_leftL {L : List Ent} {s : Int} {seen : List Nat} {e : Ent} : e ∈ leftL L s seen ↔ e ∈ L ∧ ¬ (e.a = s ∧ e.s ∈ seen) := by
  simp only [leftL, List.mem_filter, Bool.not_eq_true', Bool.and_eq_false_iff, beq_eq_false_iff_ne, List.contains_eq_mem, decide_eq_false_iff_not]
  constructor
  · rintro ⟨h1, h2⟩
    exact ⟨h1, fun h3 => h2.elim (fun h => h h3.1) (fun h => h h3.2)⟩
  · rintro ⟨h1, h2⟩
    refine ⟨h1, ?_⟩
    by_cases h3 : e.a = s
    · exact .inr (fun h4 => h2 ⟨h3, h4⟩)
    · exact .inl h3
theorem leftL_all (L : List Ent) (s : Int) (seen : List Nat) (h : ∀ e ∈ leftL L s seen, e.s ∈ seen) : leftL L s seen = L.filter (fun e => e.a != s) := by
  unfold leftL
  apply List.filter_congr
  intro e he
  by_cases h1 : e.a = s
  · have h2 : e.s ∈ seen := by
      by_cases h3 : e.s ∈ seen
      · exact h3
      · exact h e (mem_leftL.2 ⟨he, fun h4 => h3 h4.2⟩)
    simp [h1, h2]
  · have h2 : (e.a == s) = false := by simpa using h1
    have h3 : (e.a != s) = true := by simpa using h1
    rw [h2, h3]
    rfl
theorem nodup_inj {L : List Ent} (hn : (L.map (·.s)).Nodup) {x y : Ent} (hx : x ∈ L) (hy : y ∈ L) (h : x.s = y.s) : x = y := by
  induction L with
  | nil => cases hx
  | cons a L ih =>
    rw [List.map_cons, List.nodup_cons] at hn
    rcases List.mem_cons.1 hx with rfl | hx'
    · rcases List.mem_cons.1 hy with rfl | hy'
      · rfl
      · exact absurd (List.mem_map.2 ⟨y, hy', h.symm⟩) hn.1
    · rcases List.mem_cons.1 hy with rfl | hy'
      · exact absurd (List.mem_map.2 ⟨x, hx', h⟩) hn.1
      · exact ih hn.2 hx' hy'
theorem restL_less (L : List Ent) (seen : List Nat) (e : Ent) (he : e ∈ L) (hs : e.s ∉ seen) : (restL L (seen ++ [e.s])).length < (restL L seen).length := by
  unfold restL
  have h1 : L.filter (fun x => !(seen ++ [e.s]).contains x.s) = (L.filter (fun x => !seen.contains x.s)).filter (fun x => x.s != e.s) := by
    rw [List.filter_filter]
    apply List.filter_congr
    intro x _
    by_cases h2 : x.s = e.s <;> by_cases h3 : x.s ∈ seen <;> simp [h2, h3]
  rw [h1]
  apply List.length_filter_lt_length_iff_exists.2
  exact ⟨e, by simp [he, hs], by simp⟩
/-- An entry that is another split's stays. -/
theorem leftL_stay (L : List Ent) (s : Int) (seen : List Nat) (e : Ent) (hn : (L.map (·.s)).Nodup) (he : e ∈ L) (ha : e.a ≠ s) : leftL L s (seen ++ [e.s]) = leftL L s seen := by
  unfold leftL
  apply List.filter_congr
  intro x hx
  by_cases h1 : x.a = s
  · have h2 : x.s ≠ e.s := by
      intro h2
      have := nodup_inj hn hx he h2
      rw [this] at h1
      exact ha h1
    simp [h1, h2]
  · have h2 : (x.a == s) = false := by simpa using h1
    rw [h2]
    rfl
/-- An entry of the split is taken out. -/
theorem leftL_out (L : List Ent) (s : Int) (seen : List Nat) (A B : List Ent) (e : Ent) (hn : (L.map (·.s)).Nodup) (hl : leftL L s seen = A ++ e :: B) (ha : e.a = s) : leftL L s (seen ++ [e.s]) = A ++ B := by
  have hn2 : ((leftL L s seen).map (·.s)).Nodup := hn.sublist (List.Sublist.map _ List.filter_sublist)
  have h1 : leftL L s (seen ++ [e.s]) = (leftL L s seen).filter (fun x => x.s != e.s) := by
    unfold leftL
    rw [List.filter_filter]
    apply List.filter_congr
    intro x hx
    have he : e ∈ L := (mem_leftL.1 (by rw [hl]; simp : e ∈ leftL L s seen)).1
    by_cases h2 : x.s = e.s
    · have := nodup_inj hn hx he h2
      subst this
      simp [ha]
    · by_cases h3 : x.a = s <;> by_cases h4 : x.s ∈ seen <;> simp [h2, h3, h4]
  rw [hl] at h1 hn2
  rw [h1, List.filter_append, List.filter_cons]
  rw [List.map_append, List.map_cons] at hn2
  have h5 := List.nodup_append.1 hn2
  have h6 : ∀ x ∈ A, (x.s != e.s) = true := fun x hx => by
    have := h5.2.2 x.s (List.mem_map.2 ⟨x, hx, rfl⟩) e.s (List.mem_cons_self ..)
    simpa using this
  have h7 : ∀ x ∈ B, (x.s != e.s) = true := fun x hx => by
    have := (List.nodup_cons.1 h5.2.1).1
    have h8 : x.s ≠ e.s := fun h9 => this (List.mem_map.2 ⟨x, hx, h9⟩)
    simpa using h8
  rw [List.filter_eq_self.2 h6, List.filter_eq_self.2 h7]
  simp
theorem leftOf_ent (L : List Ent) (seen : List Nat) : (leftOf (L.map Ent.me).toArray seen.toArray).toList = (L.filter (fun e => !seen.contains e.s)).map Ent.me := by
  unfold leftOf
  rw [Array.toList_filter, List.filter_map]
  congr 1
  apply List.filter_congr
  intro x _
  rw [Bool.eq_iff_iff]
  simp [Ent.me]
  exact decide_eq_false_iff_not
theorem stDrop (w : World) (gs : Nat) (F : Nat → Prop) (ks : List (Int × Int)) (M : Int → Int → List (List PairD)) (h : StaR w gs F ks M) (s : Int) (hks : ks.length ≤ 1000) :
    Calls Try.prog 36 #[.pointer (some ⟨gs, 0, none⟩), .int .i64 s] w fun e w' => e = .returned (.int .i64 ((ks.length : Int) - (dropK ks s).length)) ∧ StaR w' gs F (dropK ks s) (dropM M s) ∧ Ch w w' F := by
  obtain ⟨gr, own, L, clock, h⟩ := h
  have hlen := fun ty => len_run h.map #[81] rfl ty
  have hc0 : w.cell? ⟨gs, 0, none⟩ = some (.map (some gr)) := cell_of_blk h.blk
  have HP := Aside0.mk h
  clear h
  have hrg : Runs Try.prog (Instr.range 81 (.map (some gr))) w fun v w' => v = .pointer (some ⟨w.heap.size, 0, none⟩) ∧ w' = w.alloc (.mapIter (some gr) clock #[] clock) := by
    have hm := HP.out.map
    unfold MapIs at hm
    refine ⟨_, _, ?_, rfl, rfl⟩
    simp only [Instr.range, Sem.run_bind, run_underlying Try.underlying81, Result.andThen_ok, getObj, Sem.run, hm, Sem.run_pure]
    rfl
  obtain ⟨r, hr⟩ : ∃ r, r = w.heap.size := ⟨_, rfl⟩
  obtain ⟨w1, hw1⟩ : ∃ w1, w1 = w.alloc (.mapIter (some gr) clock #[] clock) := ⟨_, rfl⟩
  have hb1 := (Below.refl w.heap.size w).alloc (Nat.le_refl _) (.mapIter (some gr) clock #[] clock)
  have hit : w1.heap[r]? = some (.mapIter (some gr) clock #[] clock) := by rw [hw1, hr]; exact alloc_at w _
  rw [← hw1] at hb1
  rw [← hw1, ← hr] at hrg
  have HIT := Aside0.mk hit
  have HB1 := Aside0.mk hb1
  have HR := Aside0.mk hr
  have HRG := Aside0.mk hrg
  clear hit hb1 hw1 hr hrg
  go_enter Try.func36, Try.ntmps36
  go_wp2_with fail
  refine upon_runs HRG.out ?_
  rintro v w2 ⟨rfl, rfl⟩
  clear hlen hc0
  go_wp2_with fail
  have HL0 : Aside0 (L.length = ks.length) := ⟨by rw [← HP.out.keys, List.length_map]⟩
  go_loopg [6] (L.length) (fun kq v6 w' => ∃ seen : List Nat, Aside0 ((restL L seen).length ≤ kq) ∧ Aside0 (MapIs w' gr (leftL L s seen) clock) ∧ Aside0 (w'.heap[r]? = some (.mapIter (some gr) clock seen.toArray clock)) ∧ Aside0 (w'.heap[gs]? = some (.cells ([.map (some gr)] : List Value).toArray 83 (0, 0))) ∧ Aside0 (Ch w w' (fun k => k = gr)))
  case atStart =>
    have hb := HB1.out
    exact ⟨[], ⟨List.length_filter_le _ _⟩, ⟨by rw [leftL_nil]; exact (hb.block gr (HP.out.flt _ HP.out.fgr)).trans HP.out.map⟩, HIT, ⟨(hb.block gs (HP.out.flt _ HP.out.fgs)).trans HP.out.blk⟩, ⟨Ch.of_below hb _⟩⟩
  case round =>
    obtain ⟨seen, HN, HM, HI, HS, HC⟩ := hrel
    have hm := HM.out
    unfold MapIs at hm
    have hold : ∀ x ∈ ((leftL L s seen).map Ent.me).toArray.toList, x.born < clock := fun x hx => by
      obtain ⟨e, he, rfl⟩ := List.mem_map.1 (by simpa using hx)
      exact HP.out.lt e (mem_leftL.1 he).1
    have hrgs : gs ≠ r := fun e => by have h1 := HS.out; have h2 := HI.out; rw [e, h2] at h1; cases h1
    have hrgr : gr ≠ r := fun e => by have h1 := hm; have h2 := HI.out; rw [e, h2] at h1; cases h1
    have hggs : gs ≠ gr := fun e => by have h1 := HS.out; rw [e, hm] at h1; cases h1
    rcases run_next_at (P := Try.prog) wr 0 r gr clock clock seen.toArray _ clock HI.out hm hold (Nat.le_refl _) with ⟨hz, hnext⟩ | ⟨e, he, w1, hw1, hnext⟩
    · have hall : ∀ e ∈ leftL L s seen, e.s ∈ seen := fun e he => by
        by_cases h1 : e.s ∈ seen
        · exact h1
        · have h2 : e ∈ (leftL L s seen).filter (fun e => !seen.contains e.s) := by simp [he, h1]
          have h3 := leftOf_ent (leftL L s seen) seen
          rw [Array.size_eq_length_toList, h3, List.length_map] at hz
          rw [List.eq_nil_of_length_eq_zero hz] at h2
          cases h2
      have hLL := leftL_all L s seen hall
      have hlen := fun ty => len_run HM.out #[81] rfl ty
      have hc0 : wr.cell? ⟨gs, 0, none⟩ = some (.map (some gr)) := cell_of_blk HS.out
      have hkk : (leftL L s seen).length = (dropK ks s).length := by
        rw [hLL, ← HP.out.keys]
        unfold dropK
        rw [List.filter_map, List.length_map]
        rfl
      rw [hkk] at hlen
      have HLL := Aside0.mk hLL
      have hle1 : (dropK ks s).length ≤ ks.length := List.length_filter_le _ _
      rw [HL0.out]
      clear hm hold hall hkk hLL hz
      go_wp2_with fail
      go_ret
      have h := HP.out
      have hsub : ∀ e ∈ L.filter (fun e => e.a != s), e ∈ L ∧ e.a ≠ s := fun e he => by simpa using he
      have hdm : ∀ e ∈ L.filter (fun e => e.a != s), dropM M s e.a e.b = M e.a e.b := fun e he => if_neg (hsub e he).2
      refine ⟨rfl, ⟨gr, own, L.filter (fun e => e.a != s), clock, ?_⟩, HC.out.mono (fun k hk => by rw [hk]; exact h.fgr)⟩
      exact {
        blk := HS.out
        map := by have := HM.out; rwa [HLL.out] at this
        keys := by rw [← h.keys]; unfold dropK; rw [List.filter_map]; rfl
        nd := h.nd.sublist List.filter_sublist
        sts := h.sts.sublist (List.Sublist.map _ List.filter_sublist)
        lt := fun e he => h.lt e (hsub e he).1
        ne := fun e he => by rw [hdm e he]; exact h.ne e (hsub e he).1
        rows := fun e he => by
          rw [hdm e he]
          exact Kd.R_step (h.rows e (hsub e he).1) (fun k hk hlt => HC.out.block k hlt (by rintro rfl; rw [h.ogr] at hk; cases hk))
        no := fun a b hab => by
          unfold dropM
          split
          · rfl
          · rename_i hne
            exact h.no a b (fun hk => hab (by simp [dropK, hk, hne]))
        ogs := h.ogs
        ogr := h.ogr
        fgs := h.fgs
        fgr := h.fgr
        fo := h.fo
        flt := fun k hk => Nat.lt_of_lt_of_le (h.flt k hk) HC.out.size }
    · obtain ⟨x, hx, hxs, rfl⟩ : ∃ x ∈ leftL L s seen, x.s ∉ seen ∧ e = Ent.me x := by
        rw [leftOf_ent] at he
        obtain ⟨x, hx, rfl⟩ := List.mem_map.1 he
        rw [List.mem_filter] at hx
        exact ⟨x, hx.1, by simpa using hx.2, rfl⟩
      obtain ⟨xa, xb, xv, xs⟩ := x
      obtain ⟨A, B, hAB⟩ := List.append_of_mem hx
      have hxL := (mem_leftL.1 hx).1
      have hless := restL_less L seen _ hxL hxs
      obtain ⟨w3, hw3⟩ : ∃ w3, w3 = setBlock w1 r (.mapIter (some gr) clock (seen.toArray.push xs) clock) := ⟨_, rfl⟩
      have hnx : (Instr.next (.pointer (some ⟨r, 0, none⟩)) false 0).run Try.prog wr = .ok (.tuple #[.bool true, .agg #[.int .i64 xa, .int .i64 xb], xv]) w3 := by rw [hw3]; exact hnext
      have hi1 : w1.heap[r]? = some (.mapIter (some gr) clock seen.toArray clock) := by rcases hw1 with rfl | rfl <;> exact HI.out
      have hc1 : Ch wr w1 (fun k => k = r) := by rcases hw1 with rfl | rfl; exact Ch.refl _ _; exact Ch.of_below (below_drew1 (Below.refl _ _)) _
      have hc3 : Ch wr w3 (fun k => k = r) := by rw [hw3]; exact hc1.trans (ch_setB hi1 _) (fun _ _ h => h)
      have hi3 : w3.heap[r]? = some (.mapIter (some gr) clock (seen.toArray.push xs) clock) := by rw [hw3]; exact setB_same hi1 _
      have hm3 : w3.heap[gr]? = some (.map ((leftL L s seen).map Ent.me).toArray clock) := hc3.blk hm hrgr
      have hs3 := hc3.blk HS.out hrgs
      have hcw3 : Ch w w3 (fun k => k = gr) := HC.out.trans hc3 (fun k hk e => by rw [e, HR.out] at hk; omega)
      have hnd : (((leftL L s seen).map Ent.me).toArray.toList.map (·.born)).Nodup := by
        have h1 : ((leftL L s seen).map Ent.me).toArray.toList.map (·.born) = (leftL L s seen).map (·.s) := by
          simp [Ent.me, Function.comp_def]
        rw [h1]
        exact HP.out.sts.sublist (List.Sublist.map _ List.filter_sublist)
      have hen : (Instr.entry (.pointer (some ⟨r, 0, none⟩))).run Try.prog w3 = .ok (.tuple #[.agg #[.int .i64 xa, .int .i64 xb], xv]) w3 := run_entry_at w3 r gr clock seen.toArray _ clock (Ent.me ⟨xa, xb, xv, xs⟩) hi3 hm3 (by simp; exact ⟨_, hx, rfl⟩) hnd
      have e5 : seen.toArray.push xs = (seen ++ [xs]).toArray := by simp
      rw [e5] at hi3
      obtain ⟨gy, hgk⟩ : ∃ gy, gy = w3.heap.size := ⟨_, rfl⟩
      obtain ⟨w4, hw4⟩ : ∃ w4, w4 = w3.alloc (.cells #[.int .i64 xa, .int .i64 xb] 85) := ⟨_, rfl⟩
      have hb4 := (Below.refl w3.heap.size w3).alloc (Nat.le_refl _) (.cells #[.int .i64 xa, .int .i64 xb] 85)
      have hk4 : w4.heap[gy]? = some (.cells ([.int .i64 xa, .int .i64 xb] : List Value).toArray 85 (0, 0)) := by rw [hw4, hgk]; exact alloc_at w3 _
      rw [← hw4] at hb4
      have hi4 := (hb4.block r (blk_lt' hi3)).trans hi3
      have hm4 : MapIs w4 gr (leftL L s seen) clock := (hb4.block gr (blk_lt' hm3)).trans hm3
      have hs4 := (hb4.block gs (blk_lt' hs3)).trans hs3
      have hcw4 : Ch w w4 (fun k => k = gr) := hcw3.trans (Ch.of_below hb4 (fun k => k = gr)) (fun _ _ h => h)
      have HW4 := Aside0.mk hw4
      have HGK := Aside0.mk hgk
      have HI4 := Aside0.mk hi4
      have HM4 := Aside0.mk hm4
      have HS4 := Aside0.mk hs4
      have HCW4 := Aside0.mk hcw4
      have HLESS := Aside0.mk hless
      have HXL := Aside0.mk hxL
      have HAB := Aside0.mk hAB
      have hgkr : gy ≠ gr := fun e => by have h1 := hk4; unfold MapIs at hm4; rw [e, hm4] at h1; cases h1
      have hcs : w4.cell? ⟨gs, 0, none⟩ = some (.map (some gr)) := cell_of_blk hs4
      have hck0 : w4.cell? ⟨gy, 0, none⟩ = some (.int .i64 xa) := cell_of_blk hk4
      have hck1 : w4.cell? ⟨gy, 1, none⟩ = some (.int .i64 xb) := cell_of_blk hk4
      clear hold hm he hw1 hx hnext hw3 hi1 hc1 hc3 hi3 hm3 hs3 hcw3 hnd e5 hgk hw4 hb4 hk4 hi4 hm4 hs4 hcw4 hless hxL hAB
      by_cases hne : xa = s
      · subst hne
        have hq : (xa == xa) = true := by simp
        go_upto_region 7 with (fail)
        rw [← HGK.out, ← HW4.out]
        clear hnx hen
        have hrm : MapIs w4.drew gr (A ++ ⟨xa, xb, xv, xs⟩ :: B) clock := by have := HM4.out; rw [HAB.out] at this; exact this
        have hA : ∀ e ∈ A, ¬ (e.a = xa ∧ e.b = xb) := fun e he h2 => by
          have hk := HP.out.nd
          rw [← HP.out.keys] at hk
          have hk2 : ((leftL L xa seen).map (fun e : Ent => (e.a, e.b))).Nodup := hk.sublist (List.Sublist.map (fun e : Ent => (e.a, e.b)) (List.filter_sublist : List.Sublist (leftL L xa seen) L))
          rw [HAB.out, List.map_append, List.map_cons] at hk2
          exact (List.nodup_append.1 hk2).2.2 (e.a, e.b) (List.mem_map.2 ⟨e, he, rfl⟩) (xa, xb) (List.mem_cons_self ..) (by rw [h2.1, h2.2])
        have hdel := fun ty => delete_run hrm hA #[81, 85] rfl ty
        obtain ⟨w5, hw5⟩ : ∃ w5, w5 = setBlock w4.drew gr (mapO (A ++ B) clock) := ⟨_, rfl⟩
        rw [← hw5] at hdel
        have hc5 : Ch w4 w5 (fun k => k = gr) := by rw [hw5]; exact (Ch.of_below (below_drew1 (Below.refl _ _)) _).trans (ch_setBlock hrm) (fun _ _ h => h)
        have HM5 : Aside0 (MapIs w5 gr (leftL L xa (seen ++ [xs])) clock) := ⟨by rw [leftL_out L xa seen A B ⟨xa, xb, xv, xs⟩ HP.out.sts HAB.out rfl, hw5]; exact hrm.put _ _⟩
        have HI5 := Aside0.mk (hc5.blk HI4.out (fun e => hrgr e.symm))
        have HS5 := Aside0.mk (hc5.blk HS4.out hggs)
        have HC5 := Aside0.mk (HCW4.out.trans hc5 (fun _ _ h => h))
        have HDEL := Aside0.mk hdel
        have hd0 : w4.drew.cell? ⟨gs, 0, none⟩ = some (.map (some gr)) := hcs
        have hd1 : w4.drew.cell? ⟨gy, 0, none⟩ = some (.int .i64 xa) := hck0
        have hd2 : w4.drew.cell? ⟨gy, 1, none⟩ = some (.int .i64 xb) := hck1
        have he0 : w5.cell? ⟨gs, 0, none⟩ = some (.map (some gr)) := cell_of_blk HS5.out
        have he1 : w5.cell? ⟨gy, 0, none⟩ = some (.int .i64 xa) := hc5.cell hck0 hgkr
        have he2 : w5.cell? ⟨gy, 1, none⟩ = some (.int .i64 xb) := hc5.cell hck1 hgkr
        clear hrm hA hdel hw5 hc5
        go_wp2_with fail
        go_region_held3 (fun w' => w'.cell? ⟨gs, 0, none⟩ = some (.map (some gr)) ∧ w'.cell? ⟨gy, 0, none⟩ = some (.int .i64 xa) ∧ w'.cell? ⟨gy, 1, none⟩ = some (.int .i64 xb)) (first | exact ⟨hd0, hd1, hd2⟩ | exact ⟨he0, he1, he2⟩)
         (refine step_delete_eq rfl _ _ 81 85 rfl _ _ _ w5 rfl rfl (HDEL.out _) ?_)
        go_wp2_with fail
        go_roundg (gk - 1)
        case measure => have h1 := HLESS.out; have h2 := HN.out; omega
        case rel => exact ⟨seen ++ [xs], ⟨by have h1 := HLESS.out; have h2 := HN.out; omega⟩, HM5, HI5, HS5, HC5⟩
      · have hq : (xa == s) = false := by simpa using hne
        go_wp2_with fail
        rw [← HGK.out, ← HW4.out]
        go_roundg (gk - 1)
        case measure => have h1 := HLESS.out; have h2 := HN.out; omega
        case rel => exact ⟨seen ++ [xs], ⟨by have h1 := HLESS.out; have h2 := HN.out; omega⟩, ⟨by rw [leftL_stay L s seen ⟨xa, xb, xv, xs⟩ HP.out.sts HXL.out hne]; exact HM4.out⟩, HI4, HS4, HCW4⟩
end Go.Proofs.Ytckjgfbfjjiikaa.K
