/- The statement NetScript. WRITTEN BY wip/gen_netscript.py. -/
import Derived.Test.YtkgbcoijkmlmnaaE22
import Derived.Deep.CutRange
import Derived.Deep.CutBlock
import Derived.Deep.MidRow
import Derived.Deep.WholeRow
import Derived.Deep.RegionHeld3
set_option linter.unusedVariables false
set_option linter.unusedSimpArgs false
set_option maxRecDepth 100000
namespace Go.Proofs.Ytkgbcoijkmlmnaa.K
open Go.RowKit Go.Proofs.YtkgbcoijkmlmnaaW.PrintWords Go.Proofs.YtkgbcoijkmlmnaaW.PrintLast Go.Proofs.YtkgbcoijkmlmnaaW.PrintMore Go.Proofs.Ytkgbcoijkmlmnaa.U Go.Proofs.Ytkgbcoijkmlmnaa.T

def litO (l m : LetD) (s1 p1 s2 p2 : Value) : Obj := .cells (rawL l s1 p1 ++ rawL m s2 p2).toArray 36
def actO (op i : Int) (l m : LetD) (s1 p1 s2 p2 : Value) : Obj := .cells (rawA ⟨op, i, l, m⟩ s1 p1 s2 p2).toArray 38
def letO (x : LetD) (s p : Value) : Obj := .cells (rawL x s p).toArray 36
theorem Two.alloc2 {W w : World} {gN gR n : Nat} {ls : List LetD} {zs : List LetZ} {bs : List (Nat × Obj)} (h : Two W w gN gR n ls zs bs) (o o2 : Obj) : Two W ((w.alloc o).alloc o2) gN gR n ls zs ((w.heap.size + 1, o2) :: (w.heap.size, o) :: bs) := by
  have := (h.alloc o).alloc o2
  rwa [World.size_alloc] at this
theorem actC {w : World} {gX : Nat} {op i : Int} {l m : LetD} {A1 A2 B1 B2 : Option Addr} {c1 c2 d1 d2 : Nat} (h : w.heap[gX]? = some (actO op i l m (.slice A1 l.m.set.length c1) (.slice A2 l.m.prs.length c2) (.slice B1 m.m.set.length d1) (.slice B2 m.m.prs.length d2))) : w.cell? ⟨gX, 2, none⟩ = some (.int .i64 l.fr) ∧ w.cell? ⟨gX, 3, none⟩ = some (.int .i64 l.dst) ∧ w.cell? ⟨gX, 4, none⟩ = some (.int .i64 l.m.k) ∧ w.cell? ⟨gX, 5, none⟩ = some (.int .i64 l.m.s) ∧ w.cell? ⟨gX, 6, none⟩ = some (.int .i64 l.m.a) ∧ w.cell? ⟨gX, 7, none⟩ = some (.int .i64 l.m.p) ∧ w.cell? ⟨gX, 8, none⟩ = some (.int .i64 l.m.q) ∧ w.cell? ⟨gX, 9, none⟩ = some (.int .i64 l.m.n) ∧ w.cell? ⟨gX, 10, none⟩ = some (.int .i64 l.m.e) ∧ w.cell? ⟨gX, 11, none⟩ = some (.int .i64 l.m.r) ∧ w.cell? ⟨gX, 12, none⟩ = some (.slice A1 l.m.set.length c1) ∧ w.cell? ⟨gX, 13, none⟩ = some (.slice A2 l.m.prs.length c2) ∧ w.cell? ⟨gX, 14, none⟩ = some (.int .i64 m.fr) ∧ w.cell? ⟨gX, 15, none⟩ = some (.int .i64 m.dst) ∧ w.cell? ⟨gX, 16, none⟩ = some (.int .i64 m.m.k) ∧ w.cell? ⟨gX, 17, none⟩ = some (.int .i64 m.m.s) ∧ w.cell? ⟨gX, 18, none⟩ = some (.int .i64 m.m.a) ∧ w.cell? ⟨gX, 19, none⟩ = some (.int .i64 m.m.p) ∧ w.cell? ⟨gX, 20, none⟩ = some (.int .i64 m.m.q) ∧ w.cell? ⟨gX, 21, none⟩ = some (.int .i64 m.m.n) ∧ w.cell? ⟨gX, 22, none⟩ = some (.int .i64 m.m.e) ∧ w.cell? ⟨gX, 23, none⟩ = some (.int .i64 m.m.r) ∧ w.cell? ⟨gX, 24, none⟩ = some (.slice B1 m.m.set.length d1) ∧ w.cell? ⟨gX, 25, none⟩ = some (.slice B2 m.m.prs.length d2) := by
  have hc : ∀ j u, (rawA ⟨op, i, l, m⟩ (.slice A1 l.m.set.length c1) (.slice A2 l.m.prs.length c2) (.slice B1 m.m.set.length d1) (.slice B2 m.m.prs.length d2))[j]? = some u → w.cell? ⟨gX, j, none⟩ = some u := fun j u hu => (cell_of_blk h).trans (by simpa using hu)
  exact ⟨hc 2 _ rfl, hc 3 _ rfl, hc 4 _ rfl, hc 5 _ rfl, hc 6 _ rfl, hc 7 _ rfl, hc 8 _ rfl, hc 9 _ rfl, hc 10 _ rfl, hc 11 _ rfl, hc 12 _ rfl, hc 13 _ rfl, hc 14 _ rfl, hc 15 _ rfl, hc 16 _ rfl, hc 17 _ rfl, hc 18 _ rfl, hc 19 _ rfl, hc 20 _ rfl, hc 21 _ rfl, hc 22 _ rfl, hc 23 _ rfl, hc 24 _ rfl, hc 25 _ rfl⟩
theorem wpList_store_new {P : Program} {ops : Array Oper} {rest : List Oper} {op : Oper} {a : Act} {w : World} {Q : Exit → Act → World → Prop} (hgd : op.guard = none) (x y : Operand) (t : TypeId) (ho : op.op = .store t x y)
    (c c' : Array Value) (hx : a.eval x = .pointer (some ⟨w.heap.size, 0, none⟩)) (hy : a.eval y = .agg c')
    (hi : (P.info? t).map (·.size) = some c'.size) (hs : c.size = c'.size) (h1 : c'.all (·.oneCell') = true)
    (h : wpList P ops Q rest (a.put op.dst undef) (w.alloc (.cells c' t))) : wpList P ops Q (op :: rest) a (w.alloc (.cells c t)) :=
  wpList_plain hgd fun _ hK => by
    unfold Oper.wp execOp
    simp only [ho, hx, hy, Sem.run_bind, Sem.run_pure, Result.andThen_ok, run_storeAt_new w t c c' hi hs h1]
    exact hK _ _ h
theorem spot_none {w : World} {g o : Nat} {z : Option _} {v : Value} (h : w.cell? ⟨g, o, z⟩ = some v) : z = none := by
  cases z with
  | none => rfl
  | some s =>
    unfold World.cell? at h
    split at h
    · simp at h
    · cases h
def actV (op i : Int) (l m : LetD) (s1 p1 s2 p2 : Value) : Value := .agg (rawA ⟨op, i, l, m⟩ s1 p1 s2 p2).toArray
theorem actB {w : World} {gX : Nat} {op i : Int} {l m : LetD} {s1 p1 s2 p2 : Value} (h : w.heap[gX]? = some (actO op i l m s1 p1 s2 p2)) : w.cell? ⟨gX, 0, none⟩ = some (.int .i64 op) ∧ w.cell? ⟨gX, 1, none⟩ = some (.int .i64 i) := ⟨cell_of_blk h, cell_of_blk h⟩
theorem act_box {W wr : World} {gN gR n : Nat} {ls : List LetD} {zs : List LetZ} {bs : List (Nat × Obj)} {op i : Int} {l m : LetD} {A1 A2 B1 B2 : Option Addr} {c1 c2 d1 d2 : Nat} (h : Two W wr gN gR n ls zs bs) : Two W (wr.alloc (.cells #[.int .i64 op, .int .i64 i, .int .i64 l.fr, .int .i64 l.dst, .int .i64 l.m.k, .int .i64 l.m.s, .int .i64 l.m.a, .int .i64 l.m.p, .int .i64 l.m.q, .int .i64 l.m.n, .int .i64 l.m.e, .int .i64 l.m.r, .slice A1 l.m.set.length c1, .slice A2 l.m.prs.length c2, .int .i64 m.fr, .int .i64 m.dst, .int .i64 m.m.k, .int .i64 m.m.s, .int .i64 m.m.a, .int .i64 m.m.p, .int .i64 m.m.q, .int .i64 m.m.n, .int .i64 m.m.e, .int .i64 m.m.r, .slice B1 m.m.set.length d1, .slice B2 m.m.prs.length d2] 38)) gN gR n ls zs ((wr.heap.size, actO op i l m (.slice A1 l.m.set.length c1) (.slice A2 l.m.prs.length c2) (.slice B1 m.m.set.length d1) (.slice B2 m.m.prs.length d2)) :: bs) := h.alloc (actO op i l m (.slice A1 l.m.set.length c1) (.slice A2 l.m.prs.length c2) (.slice B1 m.m.set.length d1) (.slice B2 m.m.prs.length d2))
theorem two_take {W : World} {gN gR n : Nat} {zs : List LetZ} (hzs : ∀ z ∈ zs, OkM W z) (i : Int) : ∃ (x : LetD) (ok : Bool) (ys : List LetZ),
    (∀ w bs, Two W w gN gR n (zs.map (·.x)) zs bs → Calls Try.prog 15 #[.pointer (some ⟨gN, 0, none⟩), .int .i64 i] w fun e w' => ∃ D1 D2 e1 e2, e = .returned (.tuple #[.agg #[.int .i64 x.fr, .int .i64 x.dst, .int .i64 x.m.k, .int .i64 x.m.s, .int .i64 x.m.a, .int .i64 x.m.p, .int .i64 x.m.q, .int .i64 x.m.n, .int .i64 x.m.e, .int .i64 x.m.r, .slice D1 x.m.set.length e1, .slice D2 x.m.prs.length e2], .bool ok]) ∧ MsgC w' x.m D1 D2 e1 e2 ∧ Two W w' gN gR n (ys.map (·.x)) zs bs) ∧
    (∀ w bs, Two W w gN gR n (ys.map (·.x)) zs bs → Calls Try.prog 16 #[.pointer (some ⟨gR, 0, none⟩), .int .i64 i] w fun e w' => ∃ D1 D2 e1 e2, e = .returned (.tuple #[.agg #[.int .i64 x.fr, .int .i64 x.dst, .int .i64 x.m.k, .int .i64 x.m.s, .int .i64 x.m.a, .int .i64 x.m.p, .int .i64 x.m.q, .int .i64 x.m.n, .int .i64 x.m.e, .int .i64 x.m.r, .slice D1 x.m.set.length e1, .slice D2 x.m.prs.length e2], .bool ok]) ∧ MsgC w' x.m D1 D2 e1 e2 ∧ Two W w' gN gR n (ys.map (·.x)) ys bs ∧ ∀ m B1 B2 d1 d2, MsgC w m B1 B2 d1 d2 → MsgC w' m B1 B2 d1 d2) := by
  by_cases hin : 0 ≤ i ∧ i < zs.length
  · obtain ⟨j, rfl⟩ : ∃ j : Nat, i = (j : Int) := ⟨i.toNat, by omega⟩
    have hj : j < zs.length := by omega
    have hjL : j < (zs.map (·.x)).length := by rw [List.length_map]; exact hj
    have hx : (zs.map (·.x))[j] = (zs[j]).x := by simp
    have hem : (zs.eraseIdx j).map (·.x) = (zs.map (·.x)).eraseIdx j := by rw [List.eraseIdx_eq_take_drop_succ, List.eraseIdx_eq_take_drop_succ, List.map_append, List.map_take, List.map_drop]
    refine ⟨(zs[j]).x, true, zs.eraseIdx j, fun w bs h => ?_, fun w bs h => ?_⟩
    · have := h.take j hjL
      rw [hx, ← hem] at this
      exact this
    · exact h.rtake j hj
  · refine ⟨zeroLet, false, zs, fun w bs h => ?_, fun w bs h => ?_⟩
    · refine (h.take_no i (by rw [List.length_map]; exact hin)).mono ?_
      rintro e w' ⟨rfl, hb⟩
      exact ⟨none, none, 0, 0, rfl, ⟨Kd.C_nil _ _, Kd.C_nil _ _, Nat.le_refl _, Nat.le_refl _⟩, h.below hb⟩
    · refine (h.rtake_no i hin).mono ?_
      rintro e w' ⟨rfl, hb⟩
      exact ⟨none, none, 0, 0, rfl, ⟨Kd.C_nil _ _, Kd.C_nil _ _, Nat.le_refl _, Nat.le_refl _⟩, h.below hb, fun m B1 B2 d1 d2 hm => hm.below hb⟩
theorem two_dbl {W : World} {gN gR n : Nat} {zs : List LetZ} (i : Int) : ∃ (ok : Bool) (ys : List LetZ),
    (∀ w bs, Two W w gN gR n (zs.map (·.x)) zs bs → Calls Try.prog 18 #[.pointer (some ⟨gN, 0, none⟩), .int .i64 i] w fun e w' => e = .returned (.bool ok) ∧ Two W w' gN gR n (ys.map (·.x)) zs bs) ∧
    (∀ w bs, Two W w gN gR n (ys.map (·.x)) zs bs → Calls Try.prog 19 #[.pointer (some ⟨gR, 0, none⟩), .int .i64 i] w fun e w' => e = .returned (.bool ok) ∧ Two W w' gN gR n (ys.map (·.x)) ys bs) := by
  by_cases hin : 0 ≤ i ∧ i < zs.length ∧ zs.length < 128
  · obtain ⟨j, rfl⟩ : ∃ j : Nat, i = (j : Int) := ⟨i.toNat, by omega⟩
    have hj : j < zs.length := by omega
    have hjL : j < (zs.map (·.x)).length := by rw [List.length_map]; exact hj
    have hx : (zs.map (·.x))[j] = (zs[j]).x := by simp
    have hem : (zs ++ [zs[j]]).map (·.x) = zs.map (·.x) ++ [(zs[j]).x] := by simp
    refine ⟨true, zs ++ [zs[j]], fun w bs h => ?_, fun w bs h => ?_⟩
    · have := h.dbl j hjL (by rw [List.length_map]; omega)
      rw [hx, ← hem] at this
      exact this
    · exact h.rdbl j hj (by omega)
  · refine ⟨false, zs, fun w bs h => ?_, fun w bs h => ?_⟩
    · refine (h.dbl_no i (by rw [List.length_map]; exact hin)).mono ?_
      rintro e w' ⟨rfl, rfl⟩
      exact ⟨rfl, h⟩
    · refine (h.rdbl_no i hin).mono ?_
      rintro e w' ⟨rfl, rfl⟩
      exact ⟨rfl, h⟩
theorem letC {w : World} {g : Nat} {x : LetD} {s p : Value} (h : w.heap[g]? = some (letO x s p)) : w.cell? ⟨g, 0, none⟩ = some (.int .i64 x.fr) ∧ w.cell? ⟨g, 1, none⟩ = some (.int .i64 x.dst) ∧ w.cell? ⟨g, 2, none⟩ = some (.int .i64 x.m.k) ∧ w.cell? ⟨g, 3, none⟩ = some (.int .i64 x.m.s) ∧ w.cell? ⟨g, 4, none⟩ = some (.int .i64 x.m.a) ∧ w.cell? ⟨g, 5, none⟩ = some (.int .i64 x.m.p) ∧ w.cell? ⟨g, 6, none⟩ = some (.int .i64 x.m.q) ∧ w.cell? ⟨g, 7, none⟩ = some (.int .i64 x.m.n) ∧ w.cell? ⟨g, 8, none⟩ = some (.int .i64 x.m.e) ∧ w.cell? ⟨g, 9, none⟩ = some (.int .i64 x.m.r) ∧ w.cell? ⟨g, 10, none⟩ = some (s) ∧ w.cell? ⟨g, 11, none⟩ = some (p) :=
  ⟨cell_of_blk h, cell_of_blk h, cell_of_blk h, cell_of_blk h, cell_of_blk h, cell_of_blk h, cell_of_blk h, cell_of_blk h, cell_of_blk h, cell_of_blk h, cell_of_blk h, cell_of_blk h⟩
set_option maxHeartbeats 6400000 in
theorem netScript_walk (W : World) (A0 : Option Addr) (c0 : Nat) (x0 : List NActD) (hr0 : Kd.C kNAct W A0 x0.length x0) (hc0 : x0.length ≤ c0) (hg0 : ∀ x ∈ x0, GNAct x) :
    Calls Try.prog 3 #[.slice A0 x0.length c0] W fun e w' => e = .returned (.bool true) ∧ Below W.heap.size W w' := by
  have hm0 := Kd.C_max hr0
  have HR0 := Aside0.mk hr0
  have HGR := Aside0.mk (great16 A0 c0 x0 W hr0 hg0 hm0)
  have hu := Try.underlying36
  have hum := Try.underlying34
  have hua := Try.underlying38
  have hun := Try.underlying30
  clear hr0 hg0
  go_enter Try.func3, Try.ntmps3
  go_wp2_with fail
  refine HGR.out.mono ?_
  rintro e w1 ⟨⟨r, rfl, hr⟩, hb1⟩
  have HB1 := Aside0.mk hb1
  have HSM := Aside0.mk hr
  clear hb1 hr HGR
  cases r
  case' true =>
    go_wp2_with fail
    refine (awake16 w1).mono ?_
    rintro e w6 ⟨rfl, hb6⟩
    have HB6 := Aside0.mk (below_then HB1.out HB1.out.size hb6)
    clear hb6
    go_wp2_with fail
    go_ret
    exact ⟨rfl, HB6.out⟩
  have HX := Aside0.mk (HSM.out rfl)
  have hx100 : x0.length ≤ 100 := HX.out.1
  clear HSM
  go_wp2_with fail
  refine (netNew w1).mono ?_
  rintro e wN ⟨gN, F, rfl, hN, hF, hbN⟩
  obtain ⟨gR, hgR⟩ : ∃ g, g = wN.heap.size := ⟨_, rfl⟩
  obtain ⟨wS, hwS⟩ : ∃ w', w' = wN.alloc (.cells #[.slice none 0 0] 30) := ⟨_, rfl⟩
  have hbS : Below wN.heap.size wN wS := by rw [hwS]; exact (Below.refl _ _).alloc (Nat.le_refl _) _
  have hRS : wS.heap[gR]? = some (.cells ([.slice none 0 0] : List Value).toArray 30 (0, 0)) := by rw [hwS, hgR]; exact alloc_at wN _
  have HB1N := Aside0.mk (below_then HB1.out HB1.out.size hbN)
  have HS := Aside0.mk (two_start (hN.below hbS) (fun k hk => Nat.le_trans HB1.out.size (hF k hk)) (below_then HB1N.out HB1N.out.size hbS) hRS (fun e => by have := hN.flt _ e; omega) (by rw [hgR]; exact HB1N.out.size))
  have HWS := Aside0.mk (And.intro hwS hgR)
  clear hN hF hbN hgR hwS hbS hRS
  go_upto_region 4 with (fail)
  rw [← HWS.out.1, ← HWS.out.2]
  clear HWS
  go_wp2_with fail
  go_loopg [5] x0.length (fun kq v5 w' => ∃ (k : Nat) (zs : List LetZ), k + kq = x0.length ∧ v5 = .int .i64 k ∧ Aside0 (Two W w' gN gR (2 * k) (zs.map (·.x)) zs []))
  case atStart => exact ⟨0, [], by omega, rfl, HS⟩
  case round =>
    clear HS HB1 HB1N
    obtain ⟨k, zs, hk, rfl, HT⟩ := hrel
    by_cases hlt : k < x0.length
    case' neg =>
      have hltI : ¬ (k : Int) < x0.length := by omega
      obtain ⟨n, hn⟩ : ∃ n, n = zs.length := ⟨_, rfl⟩
      obtain ⟨A, c, hR, hC⟩ := HT.out.row
      have hT2 := HT.out
      have hnL : (zs.map (·.x)).length = n := by rw [List.length_map, hn]
      rw [← hn] at hR hC
      have HC := Aside0.mk hC
      have hn128 : n ≤ 128 := by rw [hn]; exact hT2.len.2
      have hcR : wr.cell? ⟨gR, 0, none⟩ = some (.slice A n c) := cell_of_blk hR
      have HLIST : Aside0 (∀ w', HeldN wr w' → Calls Try.prog 20 #[.pointer (some ⟨gN, 0, none⟩)] w' fun e w'' => ∃ A c, e = .returned (.slice A n c) ∧ Kd.C kLet w'' A n (zs.map (·.x)) ∧ HeldN wr w'') := ⟨fun w' hw => by
        refine (hT2.below hw).list.mono ?_
        rintro e w'' ⟨A, c, ys, ow, rfl, _, _, h1, _, hb⟩
        rw [hnL] at h1 ⊢
        exact ⟨A, c, rfl, h1, hw.then_ hb⟩⟩
      have HSAME : Aside0 (∀ w' A1 c1, HeldN wr w' → Kd.C kLet w' A1 n (zs.map (·.x)) → Calls Try.prog 17 #[.slice A1 n c1, .slice A n c] w' fun e w'' => e = .returned (.bool true) ∧ HeldN wr w'') := ⟨fun w' A1 c1 hw h1 => by
        have h := sameLetters A1 c1 (zs.map (·.x)) A c (zs.map (·.x)) w' (by rw [hnL]; exact h1) (by rw [hnL]; exact HC.out w' hw) (by rw [hnL]; omega) true (by simp)
        rw [hnL] at h
        refine h.mono ?_
        rintro e w'' ⟨rfl, hb⟩
        exact ⟨rfl, hw.then_ hb⟩⟩
      have HAW : Aside0 (∀ w', HeldN wr w' → Calls Try.prog 11 #[] w' fun e w'' => e = .returned (.bool true) ∧ HeldN wr w'') := ⟨fun w' hw => by
        refine (awake16 w').mono ?_
        rintro e w'' ⟨rfl, hb⟩
        exact ⟨rfl, hw.then_ hb⟩⟩
      have HCR : Aside0 (∀ w', HeldN wr w' → w'.cell? ⟨gR, 0, none⟩ = some (.slice A n c)) := ⟨fun w' hw => cell_of_blk ((hw.block gR (blk_lt' hR)).trans hR)⟩
      have hh0 : HeldN wr wr.drew := below_drew wr
      have hk0 : wr.drew.cell? ⟨gR, 0, none⟩ = some (.slice A n c) := HCR.out _ hh0
      clear hT2 hR hC hn hnL
      go_wp2_with fail
      go_region_held3 (fun w' => HeldN wr w' ∧ w'.cell? ⟨gR, 0, none⟩ = some (.slice A n c)) (first | exact ⟨by assumption, HCR.out _ (by assumption)⟩) (first
        | (go_at_call 20; refine (HLIST.out _ (by assumption)).mono ?_; rintro e wy ⟨Al, cl, rfl, hLC, hHy⟩)
        | (go_at_call 17; refine (HSAME.out _ _ _ (by assumption) (by assumption)).mono ?_; rintro e wz ⟨rfl, hHz⟩)
        | (go_at_call 11; refine (HAW.out _ (by assumption)).mono ?_; rintro e wq ⟨rfl, hHq⟩))
      have HE := Aside0.mk (below_then HT.out.low HT.out.low.size hHq)
      clear hHy hHz hHq hLC hh0 hk0 hcR
      go_wp2_with fail
      go_ret
      exact ⟨rfl, HE.out⟩
    have hltI : (k : Int) < x0.length := by omega
    have hk0 : (0 : Int) ≤ (k : Int) := by omega
    obtain ⟨ad, A1, A2, c1, c2, B1, B2, d1, d2, rfl, hm1, hm2, hc⟩ := at_act HR0.out k hlt
    obtain ⟨x, hx⟩ : ∃ x, x = x0[k]'hlt := ⟨_, rfl⟩
    rw [← hx] at hm1 hm2 hc
    obtain ⟨hsl, hsm⟩ := HX.out.2 x (by rw [hx]; exact List.getElem_mem hlt)
    obtain ⟨op, i, l, m⟩ := x
    have hm1 : MsgC W l.m A1 A2 c1 c2 := hm1
    have hm2 : MsgC W m.m B1 B2 d1 d2 := hm2
    have hsl : SmallM l.m := hsl
    have hsm : SmallM m.m := hsm
    have HZ1 : Aside0 (OkM W ⟨l, .slice A1 l.m.set.length c1, .slice A2 l.m.prs.length c2⟩) := ⟨⟨A1, c1, A2, c2, rfl, rfl, hm1, hsl⟩⟩
    have HZ2 : Aside0 (OkM W ⟨m, .slice B1 m.m.set.length d1, .slice B2 m.m.prs.length d2⟩) := ⟨⟨B1, d1, B2, d2, rfl, rfl, hm2, hsm⟩⟩
    have hcw : ∀ j u, (rawA ⟨op, i, l, m⟩ (.slice A1 l.m.set.length c1) (.slice A2 l.m.prs.length c2) (.slice B1 m.m.set.length d1) (.slice B2 m.m.prs.length d2))[j]? = some u → wr.cell? (ad.add (k * 26 + j)) = some u := fun j u hu => (HT.out.low.cell (World.block_lt_of_cell? _ _ (hc j u hu))).trans (hc j u hu)
    have hcells := cell_off hcw
    have hcell0 := hcw 0 _ rfl
    rw [Nat.add_zero] at hcell0
    obtain ⟨P, hP⟩ : ∃ P, ad.add (k * 26) = P := ⟨_, rfl⟩
    rw [hP] at hcells hcell0
    obtain ⟨g0, o0, z0⟩ := P
    have hcells : ∀ j u, (rawA ⟨op, i, l, m⟩ (.slice A1 l.m.set.length c1) (.slice A2 l.m.prs.length c2) (.slice B1 m.m.set.length d1) (.slice B2 m.m.prs.length d2))[j + 1]? = some u → wr.cell? ⟨g0, o0 + (j + 1), none⟩ = some u := hcells
    obtain rfl := spot_none hcell0
    have HRG : Aside0 (wr.rangeAt g0 o0 (rawA ⟨op, i, l, m⟩ (.slice A1 l.m.set.length c1) (.slice A2 l.m.prs.length c2) (.slice B1 m.m.set.length d1) (.slice B2 m.m.prs.length d2))) := ⟨fun j v hv => by
      cases j with
      | zero =>
        obtain rfl : Value.int .i64 op = v := Option.some.inj hv
        exact hcell0
      | succ j => exact hcells j v hv⟩
    obtain ⟨gX, hgX⟩ : ∃ g, g = wr.heap.size := ⟨_, rfl⟩
    obtain ⟨w6, hw6⟩ : ∃ w', w' = wr.alloc (.cells #[.int .i64 op, .int .i64 i, .int .i64 l.fr, .int .i64 l.dst, .int .i64 l.m.k, .int .i64 l.m.s, .int .i64 l.m.a, .int .i64 l.m.p, .int .i64 l.m.q, .int .i64 l.m.n, .int .i64 l.m.e, .int .i64 l.m.r, .slice A1 l.m.set.length c1, .slice A2 l.m.prs.length c2, .int .i64 m.fr, .int .i64 m.dst, .int .i64 m.m.k, .int .i64 m.m.s, .int .i64 m.m.a, .int .i64 m.m.p, .int .i64 m.m.q, .int .i64 m.m.n, .int .i64 m.m.e, .int .i64 m.m.r, .slice B1 m.m.set.length d1, .slice B2 m.m.prs.length d2] 38) := ⟨_, rfl⟩
    have h6 : Two W w6 gN gR (2 * k) (zs.map (·.x)) zs [(gX, actO op i l m (.slice A1 l.m.set.length c1) (.slice A2 l.m.prs.length c2) (.slice B1 m.m.set.length d1) (.slice B2 m.m.prs.length d2))] := by rw [hw6, hgX]; exact act_box HT.out
    have HW6 := Aside0.mk (And.intro hw6 hgX)
    have H6 := Aside0.mk h6
    have hb6 := h6.blk (List.Mem.head _)
    obtain ⟨hx0, hx1⟩ := actB hb6
    clear hm1 hm2 hc hx hsl hsm hcw hcells hw6 hgX h6 hb6
    have hone : (#[.int .i64 op, .int .i64 i, .int .i64 l.fr, .int .i64 l.dst, .int .i64 l.m.k, .int .i64 l.m.s, .int .i64 l.m.a, .int .i64 l.m.p, .int .i64 l.m.q, .int .i64 l.m.n, .int .i64 l.m.e, .int .i64 l.m.r, .slice A1 l.m.set.length c1, .slice A2 l.m.prs.length c2, .int .i64 m.fr, .int .i64 m.dst, .int .i64 m.m.k, .int .i64 m.m.s, .int .i64 m.m.a, .int .i64 m.m.p, .int .i64 m.m.q, .int .i64 m.m.n, .int .i64 m.m.e, .int .i64 m.m.r, .slice B1 m.m.set.length d1, .slice B2 m.m.prs.length d2] : Array Value).all (·.oneCell') = true := all_oneCell_toArray (cs := [.int .i64 op, .int .i64 i, .int .i64 l.fr, .int .i64 l.dst, .int .i64 l.m.k, .int .i64 l.m.s, .int .i64 l.m.a, .int .i64 l.m.p, .int .i64 l.m.q, .int .i64 l.m.n, .int .i64 l.m.e, .int .i64 l.m.r, .slice A1 l.m.set.length c1, .slice A2 l.m.prs.length c2, .int .i64 m.fr, .int .i64 m.dst, .int .i64 m.m.k, .int .i64 m.m.s, .int .i64 m.m.a, .int .i64 m.m.p, .int .i64 m.m.q, .int .i64 m.m.n, .int .i64 m.m.e, .int .i64 m.m.r, .slice B1 m.m.set.length d1, .slice B2 m.m.prs.length d2]) (by simp [Value.oneCell'])
    go_upto_region 10 with (first
      | (refine wpList_load_mid rfl 38 (.tmp 29) rfl g0 o0 rfl _ _ HRG.out hua rfl (by kernel_rfl) ?_)
      | (refine wpList_store_new rfl (.tmp 6) (.tmp 30) 38 rfl #[.int .i64 0, .int .i64 0, .int .i64 0, .int .i64 0, .int .i64 0, .int .i64 0, .int .i64 0, .int .i64 0, .int .i64 0, .int .i64 0, .int .i64 0, .int .i64 0, .slice none 0 0, .slice none 0 0, .int .i64 0, .int .i64 0, .int .i64 0, .int .i64 0, .int .i64 0, .int .i64 0, .int .i64 0, .int .i64 0, .int .i64 0, .int .i64 0, .slice none 0 0, .slice none 0 0] #[.int .i64 op, .int .i64 i, .int .i64 l.fr, .int .i64 l.dst, .int .i64 l.m.k, .int .i64 l.m.s, .int .i64 l.m.a, .int .i64 l.m.p, .int .i64 l.m.q, .int .i64 l.m.n, .int .i64 l.m.e, .int .i64 l.m.r, .slice A1 l.m.set.length c1, .slice A2 l.m.prs.length c2, .int .i64 m.fr, .int .i64 m.dst, .int .i64 m.m.k, .int .i64 m.m.s, .int .i64 m.m.a, .int .i64 m.m.p, .int .i64 m.m.q, .int .i64 m.m.n, .int .i64 m.m.e, .int .i64 m.m.r, .slice B1 m.m.set.length d1, .slice B2 m.m.prs.length d2] rfl rfl (by kernel_rfl) rfl hone ?_))
    rw [← HW6.out.1, ← HW6.out.2]
    clear hcell0 HW6 hone HRG
    go_upto_block 2 with (fail)
    go_cut [7] from 21 to 111 (fun v7 wx => v7 = .bool true ∧ ∃ ys : List LetZ, Aside0 (Two W wx gN gR (2 * (k + 1)) (ys.map (·.x)) ys []))
    case first =>
      by_cases ho0 : op = 0
      · subst ho0
        obtain ⟨r, hr⟩ : ∃ r, r = lostN (zs.map (·.x)) [l, m] := ⟨_, rfl⟩
        obtain ⟨ys, hys⟩ : ∃ ys, ys = sendZ zs [⟨l, .slice A1 l.m.set.length c1, .slice A2 l.m.prs.length c2⟩, ⟨m, .slice B1 m.m.set.length d1, .slice B2 m.m.prs.length d2⟩] := ⟨_, rfl⟩
        have hLy : sendL (zs.map (·.x)) [l, m] = ys.map (·.x) := by rw [hys, sendZ_map]; rfl
        have HSND : Aside0 (∀ w bs g, Two W w gN gR (2 * k) (zs.map (·.x)) zs bs → (g, .cells #[.int .i64 l.fr, .int .i64 l.dst, .int .i64 l.m.k, .int .i64 l.m.s, .int .i64 l.m.a, .int .i64 l.m.p, .int .i64 l.m.q, .int .i64 l.m.n, .int .i64 l.m.e, .int .i64 l.m.r, .slice A1 l.m.set.length c1, .slice A2 l.m.prs.length c2, .int .i64 m.fr, .int .i64 m.dst, .int .i64 m.m.k, .int .i64 m.m.s, .int .i64 m.m.a, .int .i64 m.m.p, .int .i64 m.m.q, .int .i64 m.m.n, .int .i64 m.m.e, .int .i64 m.m.r, .slice B1 m.m.set.length d1, .slice B2 m.m.prs.length d2] 36) ∈ bs → Calls Try.prog 13 #[.pointer (some ⟨gN, 0, none⟩), .slice (some ⟨g, 0, none⟩) 2 2] w fun e w' => e = .returned (.int .i64 r) ∧ Two W w' gN gR (2 * (k + 1)) (ys.map (·.x)) zs bs) := ⟨fun w bs g h hm => by
          have := h.send (z1 := ⟨l, .slice A1 l.m.set.length c1, .slice A2 l.m.prs.length c2⟩) (z2 := ⟨m, .slice B1 m.m.set.length d1, .slice B2 m.m.prs.length d2⟩) hm HZ1.out HZ2.out (by omega)
          rw [hr, ← hLy]
          exact this⟩
        have HRSD : Aside0 (∀ w bs g, Two W w gN gR (2 * (k + 1)) (ys.map (·.x)) zs bs → (g, .cells #[.int .i64 l.fr, .int .i64 l.dst, .int .i64 l.m.k, .int .i64 l.m.s, .int .i64 l.m.a, .int .i64 l.m.p, .int .i64 l.m.q, .int .i64 l.m.n, .int .i64 l.m.e, .int .i64 l.m.r, .slice A1 l.m.set.length c1, .slice A2 l.m.prs.length c2, .int .i64 m.fr, .int .i64 m.dst, .int .i64 m.m.k, .int .i64 m.m.s, .int .i64 m.m.a, .int .i64 m.m.p, .int .i64 m.m.q, .int .i64 m.m.n, .int .i64 m.m.e, .int .i64 m.m.r, .slice B1 m.m.set.length d1, .slice B2 m.m.prs.length d2] 36) ∈ bs → Calls Try.prog 14 #[.pointer (some ⟨gR, 0, none⟩), .slice (some ⟨g, 0, none⟩) 2 2] w fun e w' => e = .returned (.int .i64 r) ∧ Two W w' gN gR (2 * (k + 1)) (ys.map (·.x)) ys bs) := ⟨fun w bs g h hm => by
          have := h.rsend (z1 := ⟨l, .slice A1 l.m.set.length c1, .slice A2 l.m.prs.length c2⟩) (z2 := ⟨m, .slice B1 m.m.set.length d1, .slice B2 m.m.prs.length d2⟩) hm HZ1.out HZ2.out
          rw [hr]
          rw [← hys] at this
          exact this⟩
        have hrr : (r == r) = true := by simp
        have K1 := Aside0.mk ((H6.out.alloc (.cells #[.int .i64 l.fr, .int .i64 l.dst, .int .i64 l.m.k, .int .i64 l.m.s, .int .i64 l.m.a, .int .i64 l.m.p, .int .i64 l.m.q, .int .i64 l.m.n, .int .i64 l.m.e, .int .i64 l.m.r, .slice A1 l.m.set.length c1, .slice A2 l.m.prs.length c2, .int .i64 m.fr, .int .i64 m.dst, .int .i64 m.m.k, .int .i64 m.m.s, .int .i64 m.m.a, .int .i64 m.m.p, .int .i64 m.m.q, .int .i64 m.m.n, .int .i64 m.m.e, .int .i64 m.m.r, .slice B1 m.m.set.length d1, .slice B2 m.m.prs.length d2] 36)).drew)
        have K2 := Aside0.mk ((H6.out.alloc2 (.cells #[.int .i64 l.fr, .int .i64 l.dst, .int .i64 l.m.k, .int .i64 l.m.s, .int .i64 l.m.a, .int .i64 l.m.p, .int .i64 l.m.q, .int .i64 l.m.n, .int .i64 l.m.e, .int .i64 l.m.r, .slice A1 l.m.set.length c1, .slice A2 l.m.prs.length c2, .int .i64 m.fr, .int .i64 m.dst, .int .i64 m.m.k, .int .i64 m.m.s, .int .i64 m.m.a, .int .i64 m.m.p, .int .i64 m.m.q, .int .i64 m.m.n, .int .i64 m.m.e, .int .i64 m.m.r, .slice B1 m.m.set.length d1, .slice B2 m.m.prs.length d2] 36) (.cells #[.int .i64 l.fr, .int .i64 l.dst, .int .i64 l.m.k, .int .i64 l.m.s, .int .i64 l.m.a, .int .i64 l.m.p, .int .i64 l.m.q, .int .i64 l.m.n, .int .i64 l.m.e, .int .i64 l.m.r, .slice A1 l.m.set.length c1, .slice A2 l.m.prs.length c2, .int .i64 m.fr, .int .i64 m.dst, .int .i64 m.m.k, .int .i64 m.m.s, .int .i64 m.m.a, .int .i64 m.m.p, .int .i64 m.m.q, .int .i64 m.m.n, .int .i64 m.m.e, .int .i64 m.m.r, .slice B1 m.m.set.length d1, .slice B2 m.m.prs.length d2] 36)).drew)
        have P0 := Aside0.mk (actC (H6.out.drew.blk (by with_reducible first | exact List.mem_cons_self | exact List.mem_cons_of_mem _ List.mem_cons_self | exact List.mem_cons_of_mem _ (List.mem_cons_of_mem _ List.mem_cons_self) | exact List.mem_cons_of_mem _ (List.mem_cons_of_mem _ (List.mem_cons_of_mem _ List.mem_cons_self)))))
        have P1 := Aside0.mk (actC (K1.out.blk (by with_reducible first | exact List.mem_cons_self | exact List.mem_cons_of_mem _ List.mem_cons_self | exact List.mem_cons_of_mem _ (List.mem_cons_of_mem _ List.mem_cons_self) | exact List.mem_cons_of_mem _ (List.mem_cons_of_mem _ (List.mem_cons_of_mem _ List.mem_cons_self)))))
        have P2 := Aside0.mk (actC (K2.out.blk (by with_reducible first | exact List.mem_cons_self | exact List.mem_cons_of_mem _ List.mem_cons_self | exact List.mem_cons_of_mem _ (List.mem_cons_of_mem _ List.mem_cons_self) | exact List.mem_cons_of_mem _ (List.mem_cons_of_mem _ (List.mem_cons_of_mem _ List.mem_cons_self)))))
        clear hr hys hLy
        go_wp2_with fail
        go_region_held3 (fun w' => w'.cell? ⟨gX, 2, none⟩ = some (.int .i64 l.fr) ∧ w'.cell? ⟨gX, 3, none⟩ = some (.int .i64 l.dst) ∧ w'.cell? ⟨gX, 4, none⟩ = some (.int .i64 l.m.k) ∧ w'.cell? ⟨gX, 5, none⟩ = some (.int .i64 l.m.s) ∧ w'.cell? ⟨gX, 6, none⟩ = some (.int .i64 l.m.a) ∧ w'.cell? ⟨gX, 7, none⟩ = some (.int .i64 l.m.p) ∧ w'.cell? ⟨gX, 8, none⟩ = some (.int .i64 l.m.q) ∧ w'.cell? ⟨gX, 9, none⟩ = some (.int .i64 l.m.n) ∧ w'.cell? ⟨gX, 10, none⟩ = some (.int .i64 l.m.e) ∧ w'.cell? ⟨gX, 11, none⟩ = some (.int .i64 l.m.r) ∧ w'.cell? ⟨gX, 12, none⟩ = some (.slice A1 l.m.set.length c1) ∧ w'.cell? ⟨gX, 13, none⟩ = some (.slice A2 l.m.prs.length c2) ∧ w'.cell? ⟨gX, 14, none⟩ = some (.int .i64 m.fr) ∧ w'.cell? ⟨gX, 15, none⟩ = some (.int .i64 m.dst) ∧ w'.cell? ⟨gX, 16, none⟩ = some (.int .i64 m.m.k) ∧ w'.cell? ⟨gX, 17, none⟩ = some (.int .i64 m.m.s) ∧ w'.cell? ⟨gX, 18, none⟩ = some (.int .i64 m.m.a) ∧ w'.cell? ⟨gX, 19, none⟩ = some (.int .i64 m.m.p) ∧ w'.cell? ⟨gX, 20, none⟩ = some (.int .i64 m.m.q) ∧ w'.cell? ⟨gX, 21, none⟩ = some (.int .i64 m.m.n) ∧ w'.cell? ⟨gX, 22, none⟩ = some (.int .i64 m.m.e) ∧ w'.cell? ⟨gX, 23, none⟩ = some (.int .i64 m.m.r) ∧ w'.cell? ⟨gX, 24, none⟩ = some (.slice B1 m.m.set.length d1) ∧ w'.cell? ⟨gX, 25, none⟩ = some (.slice B2 m.m.prs.length d2)) (first | (with_reducible exact PB.out) | (with_reducible exact PA.out) | (with_reducible exact PA2.out) | (with_reducible exact P0.out) | (with_reducible exact P1.out) | (with_reducible exact P2.out)) (first
          | (go_at_call 13; (with_reducible refine (HSND.out _ _ _ K1.out (by with_reducible first | exact List.mem_cons_self | exact List.mem_cons_of_mem _ List.mem_cons_self | exact List.mem_cons_of_mem _ (List.mem_cons_of_mem _ List.mem_cons_self) | exact List.mem_cons_of_mem _ (List.mem_cons_of_mem _ (List.mem_cons_of_mem _ List.mem_cons_self)))).mono ?_); rintro e wa ⟨rfl, ha⟩; have HA := Aside0.mk ha; have HA2 := Aside0.mk (ha.alloc (.cells #[.int .i64 l.fr, .int .i64 l.dst, .int .i64 l.m.k, .int .i64 l.m.s, .int .i64 l.m.a, .int .i64 l.m.p, .int .i64 l.m.q, .int .i64 l.m.n, .int .i64 l.m.e, .int .i64 l.m.r, .slice A1 l.m.set.length c1, .slice A2 l.m.prs.length c2, .int .i64 m.fr, .int .i64 m.dst, .int .i64 m.m.k, .int .i64 m.m.s, .int .i64 m.m.a, .int .i64 m.m.p, .int .i64 m.m.q, .int .i64 m.m.n, .int .i64 m.m.e, .int .i64 m.m.r, .slice B1 m.m.set.length d1, .slice B2 m.m.prs.length d2] 36)); have PA := Aside0.mk (actC (ha.blk (by with_reducible first | exact List.mem_cons_self | exact List.mem_cons_of_mem _ List.mem_cons_self | exact List.mem_cons_of_mem _ (List.mem_cons_of_mem _ List.mem_cons_self) | exact List.mem_cons_of_mem _ (List.mem_cons_of_mem _ (List.mem_cons_of_mem _ List.mem_cons_self))))); have PA2 := Aside0.mk (actC (HA2.out.blk (by with_reducible first | exact List.mem_cons_self | exact List.mem_cons_of_mem _ List.mem_cons_self | exact List.mem_cons_of_mem _ (List.mem_cons_of_mem _ List.mem_cons_self) | exact List.mem_cons_of_mem _ (List.mem_cons_of_mem _ (List.mem_cons_of_mem _ List.mem_cons_self))))); clear ha)
          | (go_at_call 13; (with_reducible refine (HSND.out _ _ _ K2.out (by with_reducible first | exact List.mem_cons_self | exact List.mem_cons_of_mem _ List.mem_cons_self | exact List.mem_cons_of_mem _ (List.mem_cons_of_mem _ List.mem_cons_self) | exact List.mem_cons_of_mem _ (List.mem_cons_of_mem _ (List.mem_cons_of_mem _ List.mem_cons_self)))).mono ?_); rintro e wa ⟨rfl, ha⟩; have HA := Aside0.mk ha; have HA2 := Aside0.mk (ha.alloc (.cells #[.int .i64 l.fr, .int .i64 l.dst, .int .i64 l.m.k, .int .i64 l.m.s, .int .i64 l.m.a, .int .i64 l.m.p, .int .i64 l.m.q, .int .i64 l.m.n, .int .i64 l.m.e, .int .i64 l.m.r, .slice A1 l.m.set.length c1, .slice A2 l.m.prs.length c2, .int .i64 m.fr, .int .i64 m.dst, .int .i64 m.m.k, .int .i64 m.m.s, .int .i64 m.m.a, .int .i64 m.m.p, .int .i64 m.m.q, .int .i64 m.m.n, .int .i64 m.m.e, .int .i64 m.m.r, .slice B1 m.m.set.length d1, .slice B2 m.m.prs.length d2] 36)); have PA := Aside0.mk (actC (ha.blk (by with_reducible first | exact List.mem_cons_self | exact List.mem_cons_of_mem _ List.mem_cons_self | exact List.mem_cons_of_mem _ (List.mem_cons_of_mem _ List.mem_cons_self) | exact List.mem_cons_of_mem _ (List.mem_cons_of_mem _ (List.mem_cons_of_mem _ List.mem_cons_self))))); have PA2 := Aside0.mk (actC (HA2.out.blk (by with_reducible first | exact List.mem_cons_self | exact List.mem_cons_of_mem _ List.mem_cons_self | exact List.mem_cons_of_mem _ (List.mem_cons_of_mem _ List.mem_cons_self) | exact List.mem_cons_of_mem _ (List.mem_cons_of_mem _ (List.mem_cons_of_mem _ List.mem_cons_self))))); clear ha)
          | (go_at_call 14; (with_reducible refine (HRSD.out _ _ _ HA.out (by with_reducible first | exact List.mem_cons_self | exact List.mem_cons_of_mem _ List.mem_cons_self | exact List.mem_cons_of_mem _ (List.mem_cons_of_mem _ List.mem_cons_self) | exact List.mem_cons_of_mem _ (List.mem_cons_of_mem _ (List.mem_cons_of_mem _ List.mem_cons_self)))).mono ?_); rintro e wb ⟨rfl, hb⟩; have HB := Aside0.mk hb; have PB := Aside0.mk (actC (hb.blk (by with_reducible first | exact List.mem_cons_self | exact List.mem_cons_of_mem _ List.mem_cons_self | exact List.mem_cons_of_mem _ (List.mem_cons_of_mem _ List.mem_cons_self) | exact List.mem_cons_of_mem _ (List.mem_cons_of_mem _ (List.mem_cons_of_mem _ List.mem_cons_self))))); clear hb)
          | (go_at_call 14; (with_reducible refine (HRSD.out _ _ _ HA2.out (by with_reducible first | exact List.mem_cons_self | exact List.mem_cons_of_mem _ List.mem_cons_self | exact List.mem_cons_of_mem _ (List.mem_cons_of_mem _ List.mem_cons_self) | exact List.mem_cons_of_mem _ (List.mem_cons_of_mem _ (List.mem_cons_of_mem _ List.mem_cons_self)))).mono ?_); rintro e wb ⟨rfl, hb⟩; have HB := Aside0.mk hb; have PB := Aside0.mk (actC (hb.blk (by with_reducible first | exact List.mem_cons_self | exact List.mem_cons_of_mem _ List.mem_cons_self | exact List.mem_cons_of_mem _ (List.mem_cons_of_mem _ List.mem_cons_self) | exact List.mem_cons_of_mem _ (List.mem_cons_of_mem _ (List.mem_cons_of_mem _ List.mem_cons_self))))); clear hb))
        all_goals (go_wp2_with fail; go_meet; exact ⟨by simp, ys, ⟨HB.out.weak (fun _ h => (List.not_mem_nil h).elim)⟩⟩)
      by_cases ho1 : op = 1
      · subst ho1
        clear ho0 HZ1 HZ2
        obtain ⟨x, ok, ys, hT1, hT2⟩ := two_take (gN := gN) (gR := gR) (n := 2 * k) H6.out.zok i
        have HT1 := Aside0.mk (hT1 w6 _ H6.out)
        have HT2 := Aside0.mk hT2
        clear hT1 hT2
        go_wp2_with fail
        refine HT1.out.mono ?_
        rintro e w7 ⟨D1, D2, e1, e2, rfl, hm7, h7⟩
        obtain ⟨gA, hgA⟩ : ∃ g, g = w7.heap.size := ⟨_, rfl⟩
        obtain ⟨w8, hw8⟩ : ∃ w', w' = w7.alloc (.cells #[.int .i64 x.fr, .int .i64 x.dst, .int .i64 x.m.k, .int .i64 x.m.s, .int .i64 x.m.a, .int .i64 x.m.p, .int .i64 x.m.q, .int .i64 x.m.n, .int .i64 x.m.e, .int .i64 x.m.r, .slice D1 x.m.set.length e1, .slice D2 x.m.prs.length e2] 36) := ⟨_, rfl⟩
        have h8 : Two W w8 gN gR (2 * k) (ys.map (·.x)) zs [(gA, letO x (.slice D1 x.m.set.length e1) (.slice D2 x.m.prs.length e2)), (gX, actO 1 i l m (.slice A1 l.m.set.length c1) (.slice A2 l.m.prs.length c2) (.slice B1 m.m.set.length d1) (.slice B2 m.m.prs.length d2))] := by rw [hw8, hgA]; exact h7.alloc _
        have hm8 : MsgC w8 x.m D1 D2 e1 e2 := by rw [hw8]; exact hm7.below ((Below.refl _ _).alloc (Nat.le_refl _) _)
        have hx8 := (actB (h8.blk (by with_reducible first | exact List.mem_cons_self | exact List.mem_cons_of_mem _ List.mem_cons_self | exact List.mem_cons_of_mem _ (List.mem_cons_of_mem _ List.mem_cons_self) | exact List.mem_cons_of_mem _ (List.mem_cons_of_mem _ (List.mem_cons_of_mem _ List.mem_cons_self))))).2
        have HW8 := Aside0.mk (And.intro hw8 hgA)
        have HM8 := Aside0.mk hm8
        have HT3 := Aside0.mk (HT2.out w8 _ h8)
        clear hm7 h7 hgA hw8 h8 hm8 hx0 hx1
        go_upto_region 16 with (fail)
        rw [← HW8.out.1, ← HW8.out.2]
        go_wp2_with fail
        refine HT3.out.mono ?_
        rintro e w9 ⟨E1, E2, f1, f2, rfl, hm9, h9, hf9⟩
        obtain ⟨gB, hgB⟩ : ∃ g, g = w9.heap.size := ⟨_, rfl⟩
        obtain ⟨w10, hw10⟩ : ∃ w', w' = w9.alloc (.cells #[.int .i64 x.fr, .int .i64 x.dst, .int .i64 x.m.k, .int .i64 x.m.s, .int .i64 x.m.a, .int .i64 x.m.p, .int .i64 x.m.q, .int .i64 x.m.n, .int .i64 x.m.e, .int .i64 x.m.r, .slice E1 x.m.set.length f1, .slice E2 x.m.prs.length f2] 36) := ⟨_, rfl⟩
        have hb10 : Below w9.heap.size w9 w10 := by rw [hw10]; exact (Below.refl _ _).alloc (Nat.le_refl _) _
        have h10 : Two W w10 gN gR (2 * k) (ys.map (·.x)) ys [(gB, letO x (.slice E1 x.m.set.length f1) (.slice E2 x.m.prs.length f2)), (gA, letO x (.slice D1 x.m.set.length e1) (.slice D2 x.m.prs.length e2)), (gX, actO 1 i l m (.slice A1 l.m.set.length c1) (.slice A2 l.m.prs.length c2) (.slice B1 m.m.set.length d1) (.slice B2 m.m.prs.length d2))] := by rw [hw10, hgB]; exact h9.alloc _
        have hmA := (hf9 _ _ _ _ _ HM8.out).below hb10
        have hmB := hm9.below hb10
        obtain ⟨a0, a1, a2, a3, a4, a5, a6, a7, a8, a9, aa, ab⟩ := letC (h10.blk (g := gA) (by with_reducible first | exact List.mem_cons_self | exact List.mem_cons_of_mem _ List.mem_cons_self | exact List.mem_cons_of_mem _ (List.mem_cons_of_mem _ List.mem_cons_self) | exact List.mem_cons_of_mem _ (List.mem_cons_of_mem _ (List.mem_cons_of_mem _ List.mem_cons_self))))
        have h11 := h10.alloc (.cells #[.int .i64 x.fr, .int .i64 x.dst, .int .i64 x.m.k, .int .i64 x.m.s, .int .i64 x.m.a, .int .i64 x.m.p, .int .i64 x.m.q, .int .i64 x.m.n, .int .i64 x.m.e, .int .i64 x.m.r, .slice D1 x.m.set.length e1, .slice D2 x.m.prs.length e2] 36)
        obtain ⟨b0, b1, b2, b3, b4, b5, b6, b7, b8, b9, ba, bb⟩ := letC (h11.blk (g := gB) (by with_reducible first | exact List.mem_cons_self | exact List.mem_cons_of_mem _ List.mem_cons_self | exact List.mem_cons_of_mem _ (List.mem_cons_of_mem _ List.mem_cons_self) | exact List.mem_cons_of_mem _ (List.mem_cons_of_mem _ (List.mem_cons_of_mem _ List.mem_cons_self))))
        have h12 := h10.alloc2 (letO x (.slice D1 x.m.set.length e1) (.slice D2 x.m.prs.length e2)) (letO x (.slice E1 x.m.set.length f1) (.slice E2 x.m.prs.length f2))
        have hb12 : Below w10.heap.size w10 ((w10.alloc (letO x (.slice D1 x.m.set.length e1) (.slice D2 x.m.prs.length e2))).alloc (letO x (.slice E1 x.m.set.length f1) (.slice E2 x.m.prs.length f2))) := ((Below.refl _ _).alloc (Nat.le_refl _) _).alloc (by rw [World.size_alloc]; omega) _
        have hCA : Kd.C kLet _ (some ⟨w10.heap.size, 0, none⟩) 1 [x] := let_C (hmA.below hb12) (h12.blk (g := w10.heap.size) (o := letO x (.slice D1 x.m.set.length e1) (.slice D2 x.m.prs.length e2)) (by with_reducible first | exact List.mem_cons_self | exact List.mem_cons_of_mem _ List.mem_cons_self | exact List.mem_cons_of_mem _ (List.mem_cons_of_mem _ List.mem_cons_self) | exact List.mem_cons_of_mem _ (List.mem_cons_of_mem _ (List.mem_cons_of_mem _ List.mem_cons_self))))
        have hCB : Kd.C kLet _ (some ⟨w10.heap.size + 1, 0, none⟩) 1 [x] := let_C (hmB.below hb12) (h12.blk (g := w10.heap.size + 1) (o := letO x (.slice E1 x.m.set.length f1) (.slice E2 x.m.prs.length f2)) (by with_reducible first | exact List.mem_cons_self | exact List.mem_cons_of_mem _ List.mem_cons_self | exact List.mem_cons_of_mem _ (List.mem_cons_of_mem _ List.mem_cons_self) | exact List.mem_cons_of_mem _ (List.mem_cons_of_mem _ (List.mem_cons_of_mem _ List.mem_cons_self))))
        have HSL : Aside0 (Calls Try.prog 17 #[.slice (some ⟨w10.heap.size, 0, none⟩) 1 1, .slice (some ⟨w10.heap.size + 1, 0, none⟩) 1 1] ((w10.alloc (.cells #[.int .i64 x.fr, .int .i64 x.dst, .int .i64 x.m.k, .int .i64 x.m.s, .int .i64 x.m.a, .int .i64 x.m.p, .int .i64 x.m.q, .int .i64 x.m.n, .int .i64 x.m.e, .int .i64 x.m.r, .slice D1 x.m.set.length e1, .slice D2 x.m.prs.length e2] 36)).alloc (.cells #[.int .i64 x.fr, .int .i64 x.dst, .int .i64 x.m.k, .int .i64 x.m.s, .int .i64 x.m.a, .int .i64 x.m.p, .int .i64 x.m.q, .int .i64 x.m.n, .int .i64 x.m.e, .int .i64 x.m.r, .slice E1 x.m.set.length f1, .slice E2 x.m.prs.length f2] 36)) fun e w' => e = .returned (.bool true) ∧ Aside0 (Two W w' gN gR (2 * (k + 1)) (ys.map (·.x)) ys [])) := ⟨by
          refine (sameLetters (some ⟨w10.heap.size, 0, none⟩) 1 [x] (some ⟨w10.heap.size + 1, 0, none⟩) 1 [x] _ hCA hCB (by simp) true (by simp)).mono ?_
          rintro e w' ⟨rfl, hb⟩
          exact ⟨rfl, ⟨((h12.below hb).weak (fun _ h => (List.not_mem_nil h).elim)).more (by omega)⟩⟩⟩
        have HW10 := Aside0.mk (And.intro hw10 hgB)
        clear hm9 h9 hf9 hgB hw10 hb10 h10 hmA hmB h11 h12 hb12 hCA hCB hx8
        go_upto_region 17 with (fail)
        rw [← HW10.out.1, ← HW10.out.2]
        have hokk : (ok == ok) = true := by simp
        go_wp2_with fail
        refine HSL.out.mono ?_
        rintro e w13 ⟨rfl, h13⟩
        go_wp2_with fail
        go_meet
        exact ⟨by simp, ys, h13⟩
      by_cases ho2 : op = 2
      · subst ho2
        clear ho0 ho1 HZ1 HZ2
        obtain ⟨ok, ys, hD1, hD2⟩ := two_dbl (W := W) (gN := gN) (gR := gR) (n := 2 * k) (zs := zs) i
        have HD1 := Aside0.mk hD1
        have HD2 := Aside0.mk hD2
        have K0 := Aside0.mk H6.out.drew
        have P0 := Aside0.mk (actB (K0.out.blk (by with_reducible first | exact List.mem_cons_self | exact List.mem_cons_of_mem _ List.mem_cons_self | exact List.mem_cons_of_mem _ (List.mem_cons_of_mem _ List.mem_cons_self) | exact List.mem_cons_of_mem _ (List.mem_cons_of_mem _ (List.mem_cons_of_mem _ List.mem_cons_self))))).2
        have hokk : (ok == ok) = true := by simp
        clear hD1 hD2
        go_wp2_with fail
        go_region_held3 (fun w' => w'.cell? ⟨gX, 1, none⟩ = some (.int .i64 i)) (first | (with_reducible exact PB.out) | (with_reducible exact PA.out) | (with_reducible exact P0.out)) (first
          | (go_at_call 18; (with_reducible refine (HD1.out _ _ K0.out).mono ?_); rintro e wa ⟨rfl, ha⟩; have HA := Aside0.mk ha; have PA := Aside0.mk (actB (ha.blk (by with_reducible first | exact List.mem_cons_self | exact List.mem_cons_of_mem _ List.mem_cons_self | exact List.mem_cons_of_mem _ (List.mem_cons_of_mem _ List.mem_cons_self) | exact List.mem_cons_of_mem _ (List.mem_cons_of_mem _ (List.mem_cons_of_mem _ List.mem_cons_self))))).2; clear ha)
          | (go_at_call 19; (with_reducible refine (HD2.out _ _ HA.out).mono ?_); rintro e wb ⟨rfl, hb⟩; have HB := Aside0.mk hb; have PB := Aside0.mk (actB (hb.blk (by with_reducible first | exact List.mem_cons_self | exact List.mem_cons_of_mem _ List.mem_cons_self | exact List.mem_cons_of_mem _ (List.mem_cons_of_mem _ List.mem_cons_self) | exact List.mem_cons_of_mem _ (List.mem_cons_of_mem _ (List.mem_cons_of_mem _ List.mem_cons_self))))).2; clear hb))
        all_goals (go_wp2_with fail; go_meet; exact ⟨by simp, ys, ⟨(HB.out.weak (fun _ h => (List.not_mem_nil h).elim)).more (by omega)⟩⟩)
      have hb0 : (op == 0) = false := beq_eq_false_iff_ne.2 ho0
      have hb1 : (op == 1) = false := beq_eq_false_iff_ne.2 ho1
      have hb2 : (op == 2) = false := beq_eq_false_iff_ne.2 ho2
      clear ho0 ho1 ho2 HZ1 HZ2
      go_wp2_with fail
      go_meet
      exact ⟨rfl, zs, ⟨(H6.out.weak (fun _ h => (List.not_mem_nil h).elim)).more (by omega)⟩⟩
    case rest =>
      obtain ⟨rfl, ys, HY⟩ := hcut
      clear HT H6 hx0 hx1 HZ1 HZ2
      obtain ⟨n, hn⟩ : ∃ n, n = ys.length := ⟨_, rfl⟩
      have hn128 : n ≤ 128 := by rw [hn]; exact HY.out.len.2
      have hnL : (ys.map (·.x)).length = n := by rw [List.length_map, hn]
      have HLI := HY.out.list
      rw [hnL] at HLI
      have HLI := Aside0.mk HLI
      have HNL := Aside0.mk (And.intro hn hnL)
      clear hn hnL
      go_wp2_with fail
      refine HLI.out.mono ?_
      rintro e w2 ⟨Al, cl, qs, ow, rfl, hql, hLP, hLC, hqm, hb2⟩
      have HB2 := Aside0.mk hb2
      have HLP := Aside0.mk (And.intro hql (And.intro hLP hqm))
      have hY2 := HY.out.below hb2
      obtain ⟨A, c, hR, hC⟩ := hY2.row
      rw [← HNL.out.1] at hR hC
      have HLEN : Aside0 (∀ w', HeldN w2 w' → Calls Try.prog 21 #[.pointer (some ⟨gN, 0, none⟩)] w' fun e w'' => e = .returned (.int .i64 n) ∧ HeldN w2 w'') := ⟨fun w' hw => by
        have h := (hY2.below hw).llen
        rw [HNL.out.2] at h
        refine h.mono ?_
        rintro e w'' ⟨rfl, rfl⟩
        exact ⟨rfl, hw⟩⟩
      have HSAME : Aside0 (∀ w', HeldN w2 w' → Calls Try.prog 17 #[.slice Al n cl, .slice A n c] w' fun e w'' => e = .returned (.bool true) ∧ HeldN w2 w'') := ⟨fun w' hw => by
        have h := sameLetters Al cl (ys.map (·.x)) A c (ys.map (·.x)) w' (by rw [HNL.out.2]; exact Kd.C_below hLC hw) (by rw [HNL.out.2]; exact hC w' hw) (by rw [HNL.out.2]; omega) true (by simp)
        rw [HNL.out.2] at h
        refine h.mono ?_
        rintro e w'' ⟨rfl, hb⟩
        exact ⟨rfl, hw.then_ hb⟩⟩
      have HCR : Aside0 (∀ w', HeldN w2 w' → w'.cell? ⟨gR, 0, none⟩ = some (.slice A n c)) := ⟨fun w' hw => cell_of_blk ((hw.block gR (blk_lt' hR)).trans hR)⟩
      have hh0 : HeldN w2 w2.drew := below_drew w2
      have hk0d : w2.drew.cell? ⟨gR, 0, none⟩ = some (.slice A n c) := HCR.out _ hh0
      have hcR : w2.cell? ⟨gR, 0, none⟩ = some (.slice A n c) := cell_of_blk hR
      have hb2n : ((n : Int) != (n : Int)) = false := by simp
      clear hql hLP hqm hb2 hY2 hR hC hLC
      go_wp2_with fail
      go_region_held3 (fun w' => HeldN w2 w' ∧ w'.cell? ⟨gR, 0, none⟩ = some (.slice A n c)) (first | exact ⟨by assumption, HCR.out _ (by assumption)⟩) (first
        | (go_at_call 21; refine (HLEN.out _ (by assumption)).mono ?_; rintro e wx ⟨rfl, hHx⟩)
        | (go_at_call 17; refine (HSAME.out _ (by assumption)).mono ?_; rintro e wz ⟨rfl, hHz⟩))
      have HOV : Aside0 (Calls Try.prog 22 #[.slice Al n cl] wz fun e w' => e = .returned (.tuple #[]) ∧ Aside0 (Two W w' gN gR (2 * (k + 1)) (ys.map (·.x)) ys [])) := ⟨by
        refine (overLetters _ qs ow wc.heap.size wz (HLP.out.2.1.below hHz) (Nat.le_trans HB2.out.size hHz.size) (by have h := HLP.out.1; rw [h]; omega) HLP.out.2.2).mono ?_
        rintro e w' ⟨rfl, hc⟩
        exact ⟨rfl, ⟨HY.out.below (Below.ch (below_then HB2.out HB2.out.size hHz) hc (Nat.le_trans HB2.out.size hHz.size) (fun _ h => h))⟩⟩⟩
      clear hHx hHz hh0 hk0d hcR hb2n
      go_wp2_with fail
      refine HOV.out.mono ?_
      rintro e w9 ⟨rfl, HY9⟩
      go_wp2_with fail
      go_roundg (x0.length - (k + 1))
      case measure => omega
      case rel => exact ⟨k + 1, ys, by omega, by go_num, HY9⟩
end Go.Proofs.Ytkgbcoijkmlmnaa.K
