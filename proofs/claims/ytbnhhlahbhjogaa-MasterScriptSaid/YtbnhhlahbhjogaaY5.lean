/- Rows of letters and of records; what is too great; what is written over. -/
import Derived.Test.YtbnhhlahbhjogaaY3
import Derived.Test.YtbnhhlahbhjogaaY4
set_option linter.unusedVariables false
set_option linter.unusedSimpArgs false
set_option maxRecDepth 100000
namespace Go.Proofs.Ytbnhhlahbhjogaa.K
open Go.RowKit Go.Proofs.YtbnhhlahbhjogaaW.PrintWords Go.Proofs.YtbnhhlahbhjogaaW.PrintLast Go.Proofs.YtbnhhlahbhjogaaW.PrintMore Go.Proofs.Ytbnhhlahbhjogaa.U Go.Proofs.Ytbnhhlahbhjogaa.T
def SmallM (m : MsgD) : Prop := m.set.length ≤ 20 ∧ m.prs.length ≤ 50
def SmallR (x : RecD) : Prop := x.set.length ≤ 20 ∧ (x.prs.length : Int) ≤ 50 ∧ ∀ s ∈ x.prs, s.key.size ≤ 100 ∧ s.val.size ≤ 100
theorem greatMessage (m : MsgD) (A1 A2 : Option Addr) (c1 c2 : Nat) (w : World) (h : MsgC w m A1 A2 c1 c2) (hg : ∀ y ∈ m.prs, GPair y) :
    Calls Try.prog 34 #[msgV m (.slice A1 m.set.length c1) (.slice A2 m.prs.length c2)] w fun e w' => RetBool (fun r => r = false → m.set.length ≤ 20 ∧ m.prs.length ≤ 50) e ∧ Below w.heap.size w w' := by
  have hb1 := (Below.refl w.heap.size w).alloc (Nat.le_refl _) (.cells #[.int .i64 m.k, .int .i64 m.s, .int .i64 m.a, .int .i64 m.p, .int .i64 m.q, .int .i64 m.n, .int .i64 m.e, .int .i64 m.r, .slice A1 m.set.length c1, .slice A2 m.prs.length c2] 45)
  have HGP := Aside0.mk (greatPairs A2 c2 m.prs 50 _ (h.below hb1).p hg)
  have HB1 := Aside0.mk hb1
  clear h hg hb1
  unfold msgV
  by_cases hs : (20 : Int) < m.set.length
  · go_enter Try.func34, Try.ntmps34
    go_wp2_with fail
    go_ret
    exact ⟨RetBool.mk true (by simp), HB1.out⟩
  · go_enter Try.func34, Try.ntmps34
    go_wp2_with fail
    refine HGP.out.mono ?_
    rintro e w1 ⟨⟨r, rfl, hr⟩, hb⟩
    have HR := Aside0.mk hr
    have HB2 := Aside0.mk (below_then HB1.out HB1.out.size hb)
    clear hr hb
    go_wp2_with fail
    go_ret
    exact ⟨RetBool.mk r (fun h => ⟨by omega, by have := (HR.out h).1; omega⟩), HB2.out⟩
set_option maxHeartbeats 1600000 in
theorem greatRecords (A0 : Option Addr) (c0 : Nat) (l0 : List RecD) (m : Int) (w : World) (hr0 : Kd.C kRec w A0 l0.length l0) (hg0 : ∀ s ∈ l0, GRec s) :
    Calls Try.prog 53 #[.slice A0 l0.length c0, .int .i64 m] w fun e w' => RetBool (fun r => r = false → (l0.length : Int) ≤ m ∧ ∀ s ∈ l0, SmallR s) e ∧ Below w.heap.size w w' := by
  have hm0 := Kd.C_max hr0
  have HR0 := Aside0.mk hr0
  have HG0 := Aside0.mk hg0
  clear hr0 hg0
  have hu := Try.underlying90
  go_enter Try.func53, Try.ntmps53
  go_wp2_with fail
  go_loopg [5] l0.length (fun kq v5 w' => ∃ k : Nat, k + kq = l0.length ∧ v5 = .int .i64 k ∧ Aside0 (∀ j (hj : j < l0.length), j < k → SmallR l0[j]) ∧ Aside0 (Below w.heap.size w w'))
  case atStart => exact ⟨0, by omega, rfl, ⟨fun j hj h => by omega⟩, ⟨Below.refl _ _⟩⟩
  case round =>
    obtain ⟨k, hk, rfl, HA, HB⟩ := hrel
    by_cases hlt : k < l0.length
    · by_cases hmost : (l0.length : Int) ≤ m
      · obtain ⟨ad, A1, A2, c1, c2, rfl, hC, hcell⟩ := at_rec (Kd.C_below HR0.out HB.out) k hlt zeroRec
        have hat := RecAt.of hcell
        obtain ⟨x, hx⟩ : ∃ x, x = l0[k] := ⟨_, rfl⟩
        rw [← hx] at hC hat
        obtain ⟨P, hP⟩ : ∃ P, ad.add (k * 7) = P := ⟨_, rfl⟩
        rw [hP] at hat
        obtain ⟨g0, o0, q0⟩ := P
        have hgx : GRec x := by rw [hx]; exact HG0.out _ (List.getElem_mem _)
        have HGP := Aside0.mk hgx.2.2.2.2.2.2
        have HX := Aside0.mk hx
        have HC := Aside0.mk hC
        have f5 := hat.c5
        have f6 := hat.c6
        have hkI : (k : Int) < l0.length := by omega
        clear hx hC hcell hat hgx
        by_cases hbig : 20 < x.set.length
        · have hb' : (20 : Int) < x.set.length := by omega
          go_wp2_with fail
          go_ret
          exact ⟨RetBool.mk true (by simp), HB.out⟩
        · have hb' : ¬ (20 : Int) < x.set.length := by omega
          go_wp2_with fail
          refine (greatPairs A2 c2 x.prs 50 wr HC.out.p HGP.out).mono ?_
          rintro e w1 ⟨⟨r, rfl, hr⟩, hb1⟩
          have HB1 := Aside0.mk (two_andj _ _ _ HB.out hb1)
          have HR := Aside0.mk hr
          clear hr hb1
          cases r with
          | true =>
            go_wp2_with fail
            go_ret
            exact ⟨RetBool.mk true (by simp), HB1.out⟩
          | false =>
            have HSM : Aside0 (SmallR x) := ⟨by omega, HR.out rfl⟩
            go_wp2_with fail
            go_roundg (l0.length - (k + 1))
            case measure => omega
            case rel => exact ⟨k + 1, by omega, by go_num, ⟨fun j hj h => by
              rcases Nat.lt_or_ge j k with h1 | h1
              · exact HA.out j hj h1
              · obtain rfl : j = k := by omega
                rw [← HX.out]
                exact HSM.out⟩, HB1⟩
      · go_wp2_with fail
        go_ret
        exact ⟨RetBool.mk true (by simp), HB.out⟩
    · by_cases hmost : (l0.length : Int) ≤ m
      · go_wp2_with fail
        go_ret
        refine ⟨RetBool.mk (decide (m < (l0.length : Int))) (fun _ => ⟨hmost, fun s hs => ?_⟩), HB.out⟩
        obtain ⟨j, hj, rfl⟩ := List.getElem_of_mem hs
        exact HA.out j hj (by omega)
      · go_wp2_with fail
        go_ret
        exact ⟨RetBool.mk true (by simp), HB.out⟩

/-! ### awake -/
structure LetZ where
  x : LetD
  sv : Value
  pv : Value
def rawZ (z : LetZ) : List Value := rawL z.x z.sv z.pv
def OkZ (z : LetZ) (cs : List Value) : Prop := cs = rawZ z ∧ z.sv.oneCell' = true ∧ z.pv.oneCell' = true
def kLR : Kd LetZ where
  sz := 12
  E := []
  K := fun _ z cs => OkZ z cs
  M := fun _ _ _ z cs => OkZ z cs
  K_len := by
    rintro w z cs ⟨rfl, _⟩
    rfl
  K_one := by
    rintro w z cs ⟨rfl, h1, h2⟩ u hu
    simp only [rawZ, rawL, List.mem_cons, List.not_mem_nil, or_false] at hu
    rcases hu with rfl | rfl | rfl | rfl | rfl | rfl | rfl | rfl | rfl | rfl | rfl | rfl
    all_goals first | exact h1 | exact h2 | rfl
  K_below := fun _ h => h
  K_of_M := fun h => h
  M_mono := fun _ h => h
  M_bound := fun h => h
  M_move := fun _ h => h
  M_lower := fun _ h => h
theorem flat_LR : Flat kLR := ⟨fun h _ _ _ => h⟩
structure ListP (w : World) (base : Nat) (v : Value) (zs : List LetZ) (ow : Nat → Option Nat) : Prop where
  row : Own kLR 51 w base v zs
  sets : ∀ j (h : j < zs.length), Kd.R kI 3 w base (fun k => ow k = some j) (zs[j]).sv (zs[j]).x.m.set
  prs : ∀ j (h : j < zs.length), Kd.R kPair 113 w base (fun k => ow k = some j) (zs[j]).pv (zs[j]).x.m.prs
  out : ∀ k, v.ownBlock = some k → ow k = none
  lt : ∀ k, ow k ≠ none → k < w.heap.size
section
variable {w w' : World} {base : Nat} {v : Value} {zs : List LetZ} {ow : Nat → Option Nat}
theorem ListP.below (h : ListP w base v zs ow) (hb : Below w.heap.size w w') : ListP w' base v zs ow :=
  ⟨h.row.below hb, fun j hj => Kd.R_below (h.sets j hj) hb, fun j hj => Kd.R_below (h.prs j hj) hb, h.out, fun k hk => Nat.lt_of_lt_of_le (h.lt k hk) hb.size⟩
theorem ListP.reads (h : ListP w base v zs ow) : ∃ A c, v = .slice A zs.length c ∧ Kd.C kLet w A zs.length (zs.map (·.x)) := by
  obtain ⟨A, c, e, _, hC⟩ := h.row.reads
  refine ⟨A, c, e, ?_⟩
  obtain ⟨h1, h2, h3⟩ := hC
  refine ⟨by rw [List.length_map], h2, fun hn => ?_⟩
  obtain ⟨ad, ea, hc⟩ := h3 hn
  refine ⟨ad, ea, fun j x hj => ?_⟩
  rw [List.getElem?_map] at hj
  obtain ⟨z, hz, rfl⟩ := Option.map_eq_some_iff.1 hj
  obtain ⟨cs, hl, hK, hcell⟩ := hc j z hz
  obtain ⟨hlt, hzj⟩ := List.getElem?_eq_some_iff.1 hz
  have h4 := h.sets j hlt
  have h5 := h.prs j hlt
  rw [hzj] at h4 h5
  obtain ⟨A1, c1, e1, hle1, hC1⟩ := Kd.R_reads h4
  obtain ⟨A2, c2, e2, hle2, hC2⟩ := Kd.R_reads h5
  obtain ⟨rfl, _, _⟩ := hK
  refine ⟨rawZ z, rfl, ?_, hcell⟩
  unfold rawZ
  rw [e1, e2]
  exact kLet_mk ⟨hC1, hC2, hle1, hle2⟩
end
theorem zs_C (w : World) (z : LetZ) (h1 : z.sv.oneCell' = true) (h2 : z.pv.oneCell' = true) {g : Nat} {t : TypeId} {fr : Nat × Nat} (h : w.heap[g]? = some (.cells (rawZ z).toArray t fr)) : Kd.C kLR w (some ⟨g, 0, none⟩) 1 [z] := by
  refine ⟨rfl, by show 1 ≤ 9223372036854775807; omega, fun _ => ⟨_, rfl, fun j y hj => ?_⟩⟩
  have hj0 : j = 0 ∧ z = y := by
    cases j with
    | zero => simpa using hj
    | succ j => simp at hj
  obtain ⟨rfl, rfl⟩ := hj0
  refine ⟨_, rfl, ⟨rfl, h1, h2⟩, fun i u hu => ?_⟩
  rw [show 0 * kLR.sz + i = i from by rw [Nat.zero_mul, Nat.zero_add]]
  exact cells_of_blk h i u hu
theorem own_blkN {α : Type} {d : Kd α} {e : TypeId} {w : World} {base : Nat} {v : Value} {xs : List α} (h : Own d e w base v xs) {k : Nat} (hk : v.ownBlock = some k) : ∃ cs, w.heap[k]? = some (.cells cs e (0, 0)) := by
  obtain ⟨_, inner, ⟨hl, ho⟩, hr⟩ := h
  rcases ho with ⟨rfl, _⟩ | ⟨g, cap, cur, rfl, h1, h2, _⟩
  · cases hk
  · injection hk with hk
    subst hk
    exact ⟨_, h2⟩
set_option maxHeartbeats 1600000 in
theorem overMessage (m : MsgD) (sv pv : Value) (base : Nat) (w : World) (hs : Own kI 3 w base sv m.set) (hp : Own kPair 113 w base pv m.prs) (hb : base ≤ w.heap.size) (h1 : m.set.length ≤ 1000000) (h2 : m.prs.length ≤ 1000000) :
    Calls Try.prog 82 #[msgV m sv pv] w fun e w' => e = .returned (.tuple #[]) ∧ Ch w w' (fun k => sv.ownBlock = some k ∨ pv.ownBlock = some k) := by
  obtain ⟨A1, c1, rfl, _, _⟩ := hs.reads
  obtain ⟨A2, c2, rfl, _, _⟩ := hp.reads
  obtain ⟨g, hg⟩ : ∃ g, g = w.heap.size := ⟨_, rfl⟩
  obtain ⟨wA, hwA⟩ : ∃ wA, wA = w.alloc (.cells #[.int .i64 m.k, .int .i64 m.s, .int .i64 m.a, .int .i64 m.p, .int .i64 m.q, .int .i64 m.n, .int .i64 m.e, .int .i64 m.r, .slice A1 m.set.length c1, .slice A2 m.prs.length c2] 45) := ⟨_, rfl⟩
  have hbA : Below w.heap.size w wA := by rw [hwA]; exact (Below.refl _ _).alloc (Nat.le_refl _) _
  have hgA : wA.heap[g]? = some (.cells ([.int .i64 m.k, .int .i64 m.s, .int .i64 m.a, .int .i64 m.p, .int .i64 m.q, .int .i64 m.n, .int .i64 m.e, .int .i64 m.r, .slice A1 m.set.length c1, .slice A2 m.prs.length c2] : List Value).toArray 45 (0, 0)) := by rw [hwA, hg]; exact alloc_at w _
  have HI := Aside0.mk (overInts (.slice A1 m.set.length c1) m.set base wA (hs.below hbA) (Nat.le_trans hb hbA.size) (by omega))
  have hfar : ∀ k, (Value.slice A2 m.prs.length c2).ownBlock = some k → (Value.slice A1 m.set.length c1).ownBlock ≠ some k := fun k hk e => by
    obtain ⟨cs, h3⟩ := own_blkN hp hk
    obtain ⟨cs', h4⟩ := own_blkN hs e
    rw [h3] at h4
    injection h4 with h4
    injection h4 with _ h4
    exact absurd h4 (by decide)
  have HP := Aside0.mk (show ∀ w1, wA.grownBy w1 (Value.slice A1 m.set.length c1).ownBlock → Calls Try.prog 60 #[.slice A2 m.prs.length c2] w1 fun e w' => e = .returned (.tuple #[]) ∧ w1.grownBy w' (Value.slice A2 m.prs.length c2).ownBlock from fun w1 h3 => overPairs (.slice A2 m.prs.length c2) m.prs base w1 ((hp.below hbA).other flat_pair h3 hfar) (Nat.le_trans (Nat.le_trans hb hbA.size) h3.size) (by omega))
  have hc8 : wA.cell? ⟨g, 8, none⟩ = some (.slice A1 m.set.length c1) := cell_of_blk hgA
  have hlt := hs.lt
  have HST : Aside0 (∀ w1, wA.grownBy w1 (Value.slice A1 m.set.length c1).ownBlock → w1.cell? ⟨g, 9, none⟩ = some (.slice A2 m.prs.length c2)) := ⟨fun w1 h3 => cell_of_blk ((h3.block g (blk_lt' hgA) (fun e => by have := hlt g e.symm; omega)).trans hgA)⟩
  have HA := Aside0.mk (And.intro hwA hg)
  have HB := Aside0.mk hbA
  clear hs hp hwA hbA hgA hfar hlt hg
  unfold msgV
  go_enter Try.func82, Try.ntmps82
  go_upto_region 1 with (fail)
  rw [← HA.out.1, ← HA.out.2]
  go_wp2_with fail
  refine HI.out.mono ?_
  rintro e w1 ⟨rfl, hg1⟩
  have hc9 := HST.out w1 hg1
  have HG1 := Aside0.mk hg1
  have HP1 := Aside0.mk (HP.out w1 hg1)
  clear hg1 hc8
  go_wp2_with fail
  refine HP1.out.mono ?_
  rintro e w2 ⟨rfl, hg2⟩
  have HG2 := Aside0.mk hg2
  clear hg2
  go_wp2_with fail
  go_end0
  refine ⟨rfl, ((Ch.of_below HB.out _).trans (Ch.of_grown (S := fun k => (Value.slice A1 m.set.length c1).ownBlock = some k) HG1.out (fun k hk => hk)) (fun k _ hk => .inl hk)).trans (Ch.of_grown (S := fun k => (Value.slice A2 m.prs.length c2).ownBlock = some k) HG2.out (fun k hk => hk)) (fun k _ hk => .inr hk)⟩
def zeroZ : LetZ := ⟨zeroLet, .slice none 0 0, .slice none 0 0⟩
def overZ : LetZ := ⟨⟨-9, 0, nilMsg⟩, .slice none 0 0, .slice none 0 0⟩
set_option maxHeartbeats 3200000 in
theorem overLetters (v : Value) (zs : List LetZ) (ow : Nat → Option Nat) (base : Nat) (w : World) (hL : ListP w base v zs ow) (hb : base ≤ w.heap.size) (hl : zs.length ≤ 100000) (hsm : ∀ z ∈ zs, z.x.m.set.length ≤ 1000000 ∧ z.x.m.prs.length ≤ 1000000) :
    Calls Try.prog 59 #[v] w fun e w' => e = .returned (.tuple #[]) ∧ Ch w w' (base ≤ ·) := by
  have hu := Try.underlying51
  have hum := Try.underlying45
  obtain ⟨A, c, rfl, hc, hrd⟩ := hL.row.reads
  have HO := Aside0.mk hL
  clear hrd
  rcases Nat.eq_zero_or_pos zs.length with h0 | h0
  · obtain rfl := List.eq_nil_of_length_eq_zero h0
    clear hL hl h0
    go_enter Try.func59, Try.ntmps59
    go_wp2_with fail
    go_loopg [2] 1 (fun kq v2 w' => v2 = .int .i64 0 ∧ w' = w)
    case atStart => exact ⟨rfl, rfl⟩
    case round =>
      obtain ⟨rfl, rfl⟩ := hrel
      go_wp2_with fail
      go_end0
      exact ⟨rfl, Ch.refl _ _⟩
  · obtain ⟨g, cap, he, hbg, hlt, _⟩ := Kd.R_form hL.row h0
    simp only [Value.slice.injEq] at he
    obtain ⟨rfl, _, rfl⟩ := he
    have HSM := Aside0.mk hsm
    have HBG := Aside0.mk (And.intro hb hbg)
    clear hL hsm hb hbg hlt
    go_enter Try.func59, Try.ntmps59
    go_wp2_with fail
    go_loopg [2] zs.length (fun kq v2 w' => ∃ (k : Nat) (ys : List LetZ), k + kq = zs.length ∧ v2 = .int .i64 k ∧ Aside0 (ys.length = zs.length) ∧ Aside0 (Own kLR 51 w' base (.slice (some ⟨g, 0, none⟩) zs.length c) ys) ∧ Aside0 (∀ j, k ≤ j → ys[j]? = zs[j]?) ∧
      Aside0 (∀ j (h : j < zs.length), k ≤ j → Kd.R kI 3 w' base (fun i => ow i = some j) (zs[j]).sv (zs[j]).x.m.set ∧ Kd.R kPair 113 w' base (fun i => ow i = some j) (zs[j]).pv (zs[j]).x.m.prs) ∧ Aside0 (Ch w w' (base ≤ ·)))
    case atStart => exact ⟨0, zs, by omega, rfl, ⟨rfl⟩, ⟨HO.out.row⟩, ⟨fun _ _ => rfl⟩, ⟨fun j h _ => ⟨HO.out.sets j h, HO.out.prs j h⟩⟩, ⟨Ch.refl _ _⟩⟩
    case round =>
      obtain ⟨k, ys, hk, rfl, HYS, HO1, HT, HR, HG⟩ := hrel
      by_cases hlt : k < zs.length
      · obtain ⟨z, hz⟩ : ∃ z, z = zs[k] := ⟨_, rfl⟩
        obtain ⟨hs, hp⟩ := HR.out k hlt (Nat.le_refl _)
        obtain ⟨hsl, hpl⟩ := HSM.out _ (List.getElem_mem hlt)
        rw [← hz] at hs hp hsl hpl
        have hyk : ys[k]? = some z := by rw [HT.out k (Nat.le_refl _), hz]; exact List.getElem?_eq_getElem hlt
        obtain ⟨⟨fr, dst, m⟩, sv, pv⟩ := z
        replace hs : Kd.R kI 3 wr base (fun i => ow i = some k) sv m.set := hs
        replace hp : Kd.R kPair 113 wr base (fun i => ow i = some k) pv m.prs := hp
        replace hsl : m.set.length ≤ 1000000 := hsl
        replace hpl : m.prs.length ≤ 1000000 := hpl
        obtain ⟨A1, c1, rfl, _, _⟩ := Kd.R_reads hs
        obtain ⟨A2, c2, rfl, _, _⟩ := Kd.R_reads hp
        obtain ⟨ls1, hls1⟩ : ∃ n, n = m.set.length := ⟨_, rfl⟩
        obtain ⟨lp1, hlp1⟩ : ∃ n, n = m.prs.length := ⟨_, rfl⟩
        have hsz : base ≤ wr.heap.size := Nat.le_trans HBG.out.1 HG.out.size
        have HOV := Aside0.mk (overMessage m _ _ base wr (Kd.R_mono hs (fun _ _ => trivial)) (Kd.R_mono hp (fun _ _ => trivial)) hsz hsl hpl)
        have hown : ∀ i, ((Value.slice A1 m.set.length c1).ownBlock = some i ∨ (Value.slice A2 m.prs.length c2).ownBlock = some i) → ow i = some k := fun i hi => by
          rcases hi with hi | hi
          · exact hs.1 i hi
          · exact hp.1 i hi
        have hel : ∀ (w1 : World) (us : List LetZ), us.length = zs.length → us[k]? = some ⟨⟨fr, dst, m⟩, .slice A1 m.set.length c1, .slice A2 m.prs.length c2⟩ → Own kLR 51 w1 base (.slice (some ⟨g, 0, none⟩) zs.length c) us → LetAt w1 ⟨g, k * 12, none⟩ fr dst m (.slice A1 m.set.length c1) (.slice A2 m.prs.length c2) ∧ (∀ i, w1.frozen? ⟨g, k * 12 + i, none⟩ = false) ∧ Own kLR 51 (w1.setCells g (k * 12) (rawZ overZ)) base (.slice (some ⟨g, 0, none⟩) zs.length c) (us.set k overZ) ∧ w1.grownBy (w1.setCells g (k * 12) (rawZ overZ)) (some g) := fun w1 us hus huk hO => by
          obtain ⟨ce, hcl, hM, hcc, hfr⟩ := Kd.R_elem hO zeroZ (k : Int) (by omega) (by omega)
          have e : us.getD (k : Int).toNat zeroZ = ⟨⟨fr, dst, m⟩, .slice A1 m.set.length c1, .slice A2 m.prs.length c2⟩ := by rw [Int.toNat_natCast, List.getD_eq_getElem?_getD, huk]; rfl
          rw [e] at hM
          obtain ⟨hce, h1, h2⟩ := hM
          obtain ⟨hput, hgp⟩ := Kd.R_seg hO (k : Int) (by omega) (by omega) (seg := rawZ overZ) (j := 0) hcl hcc (by decide) (x' := overZ) (okp := fun _ => False) (by rw [hce]; exact ⟨rfl, rfl, rfl⟩) (fun _ h => h.elim)
          rw [hce] at hcc
          rw [Int.toNat_natCast] at hcc hfr hput hgp
          exact ⟨⟨hcc 0 _ rfl, hcc 1 _ rfl, hcc 2 _ rfl, hcc 3 _ rfl, hcc 4 _ rfl, hcc 5 _ rfl, hcc 6 _ rfl, hcc 7 _ rfl, hcc 8 _ rfl, hcc 9 _ rfl, hcc 10 _ rfl, hcc 11 _ rfl⟩, hfr, hput, hgp⟩
        have HEL := Aside0.mk hel
        obtain ⟨hat, _⟩ := hel wr ys HYS.out hyk HO1.out
        have HNX : Aside0 (∀ w1, Ch wr w1 (fun i => (Value.slice A1 m.set.length c1).ownBlock = some i ∨ (Value.slice A2 m.prs.length c2).ownBlock = some i) → Own kLR 51 w1 base (.slice (some ⟨g, 0, none⟩) zs.length c) ys ∧ (∀ w2, w1.grownBy w2 (some g) → Aside0 (∀ j (h : j < zs.length), k + 1 ≤ j → Kd.R kI 3 w2 base (fun i => ow i = some j) (zs[j]).sv (zs[j]).x.m.set ∧ Kd.R kPair 113 w2 base (fun i => ow i = some j) (zs[j]).pv (zs[j]).x.m.prs) ∧ Aside0 (Ch w w2 (base ≤ ·)))) := ⟨fun w1 hc1 => by
          have hc1' := hc1.mono (fun i hi => hown i hi)
          have hog : ow g = none := HO.out.out g rfl
          refine ⟨HO1.out.ch flat_LR hc1' (fun i hi e => by injection hi with hi; rw [← hi, hog] at e; cases e), fun w2 hg2 => ⟨⟨fun j hj hkj => ?_⟩, ⟨?_⟩⟩⟩
          · obtain ⟨q1, q2⟩ := HR.out j hj (by omega)
            have hst : ∀ i, ow i = some j → i < wr.heap.size → w2.heap[i]? = wr.heap[i]? := fun i hi hlt' => (hg2.block i (Nat.lt_of_lt_of_le hlt' hc1.size) (fun e => by injection e with e; rw [e, hog] at hi; cases hi)).trans (hc1'.block i hlt' (fun e => by rw [e] at hi; injection hi with hi; omega))
            exact ⟨Kd.R_step q1 hst, Kd.R_step q2 hst⟩
          · refine (HG.out.trans (hc1.mono (T := (base ≤ ·)) (fun i hi => ?_)) (fun i _ h => h)).trans (Ch.of_grown (S := (base ≤ ·)) hg2 (fun i hi => by injection hi with hi; rw [← hi]; exact HBG.out.2)) (fun i _ h => h)
            rcases hi with hi | hi
            · exact (Kd.R_bound (Kd.R_mono hs (fun _ _ => trivial) : Own kI 3 wr base _ m.set)).1 i hi |>.2.1
            · exact (Kd.R_bound (Kd.R_mono hp (fun _ _ => trivial) : Own kPair 113 wr base _ m.prs)).1 i hi |>.2.1⟩
        have HYK := Aside0.mk hyk
        have HAT := Aside0.mk hat
        have hin : (k : Int) < zs.length := by omega
        have hi0 : (0 : Int) ≤ (k : Int) := by omega
        have hP : (⟨g, 0, none⟩ : Addr).add (k * 12) = ⟨g, k * 12, none⟩ := by rw [add_plain]
        obtain ⟨f0, f1, f2, f3, f4, f5, f6, f7, f8, f9, fa, fb⟩ := hat
        clear hs hp hz hyk hel hown hsl hpl hls1 hlp1 hsz
        unfold msgV at HOV
        go_wp2_with fail
        refine HOV.out.mono ?_
        rintro e w1 ⟨rfl, hc1⟩
        obtain ⟨hO1, hN1⟩ := HNX.out w1 hc1
        have HN1 := Aside0.mk hN1
        obtain ⟨⟨p0, p1, p2, p3, p4, p5, p6, p7, p8, p9, pa, pb⟩, hfz, hput, hgp⟩ := HEL.out w1 ys HYS.out HYK.out hO1
        have HPUT := Aside0.mk hput
        have HGP := Aside0.mk hgp
        have z0 : w1.frozen? ⟨g, k * 12, none⟩ = false := hfz 0
        have z1 : w1.frozen? ⟨g, k * 12 + 1, none⟩ = false := hfz 1
        have z2 : w1.frozen? ⟨g, k * 12 + 2, none⟩ = false := hfz 2
        have z3 : w1.frozen? ⟨g, k * 12 + 3, none⟩ = false := hfz 3
        have z4 : w1.frozen? ⟨g, k * 12 + 4, none⟩ = false := hfz 4
        have z5 : w1.frozen? ⟨g, k * 12 + 5, none⟩ = false := hfz 5
        have z6 : w1.frozen? ⟨g, k * 12 + 6, none⟩ = false := hfz 6
        have z7 : w1.frozen? ⟨g, k * 12 + 7, none⟩ = false := hfz 7
        have z8 : w1.frozen? ⟨g, k * 12 + 8, none⟩ = false := hfz 8
        have z9 : w1.frozen? ⟨g, k * 12 + 9, none⟩ = false := hfz 9
        have za : w1.frozen? ⟨g, k * 12 + 10, none⟩ = false := hfz 10
        have zb : w1.frozen? ⟨g, k * 12 + 11, none⟩ = false := hfz 11
        clear f0 f1 f2 f3 f4 f5 f6 f7 f8 f9 fa fb hc1 hO1 hN1 hput hgp hfz
        go_wp2_with fail
        obtain ⟨w2, hw2⟩ : ∃ w2, w2 = w1.setCells g (k * 12) (rawZ overZ) := ⟨_, rfl⟩
        have hput := HPUT.out
        have hgp := HGP.out
        rw [← hw2] at hput hgp
        go_roundg (zs.length - (k + 1))
        case measure => omega
        case rel => exact ⟨k + 1, ys.set k overZ, by omega, by go_num, ⟨by rw [List.length_set]; exact HYS.out⟩, HPUT, ⟨fun j hj => by rw [List.getElem?_set_ne (by omega)]; exact HT.out j (by omega)⟩, (HN1.out _ HGP.out).1, (HN1.out _ HGP.out).2⟩
      · go_wp2_with fail
        go_end0
        exact ⟨rfl, HG.out⟩
structure RecZ where
  x : RecD
  sv : Value
  pv : Value
def rawRZ (z : RecZ) : List Value := rawR z.x z.sv z.pv
def OkRZ (z : RecZ) (cs : List Value) : Prop := cs = rawRZ z ∧ z.sv.oneCell' = true ∧ z.pv.oneCell' = true
def kRR : Kd RecZ where
  sz := 7
  E := []
  K := fun _ z cs => OkRZ z cs
  M := fun _ _ _ z cs => OkRZ z cs
  K_len := by
    rintro w z cs ⟨rfl, _⟩
    rfl
  K_one := by
    rintro w z cs ⟨rfl, h1, h2⟩ u hu
    simp only [rawRZ, rawR, List.mem_cons, List.not_mem_nil, or_false] at hu
    rcases hu with rfl | rfl | rfl | rfl | rfl | rfl | rfl
    all_goals first | exact h1 | exact h2 | rfl
  K_below := fun _ h => h
  K_of_M := fun h => h
  M_mono := fun _ h => h
  M_bound := fun h => h
  M_move := fun _ h => h
  M_lower := fun _ h => h
theorem flat_RR : Flat kRR := ⟨fun h _ _ _ => h⟩
structure RListP (w : World) (base : Nat) (v : Value) (zs : List RecZ) (ow : Nat → Option Nat) : Prop where
  row : Own kRR 90 w base v zs
  sets : ∀ j (h : j < zs.length), Kd.R kI 3 w base (fun k => ow k = some j) (zs[j]).sv (zs[j]).x.set
  prs : ∀ j (h : j < zs.length), Kd.R kPair 113 w base (fun k => ow k = some j) (zs[j]).pv (zs[j]).x.prs
  out : ∀ k, v.ownBlock = some k → ow k = none
  lt : ∀ k, ow k ≠ none → k < w.heap.size
section
variable {w w' : World} {base : Nat} {v : Value} {zs : List RecZ} {ow : Nat → Option Nat}
theorem RListP.below (h : RListP w base v zs ow) (hb : Below w.heap.size w w') : RListP w' base v zs ow :=
  ⟨h.row.below hb, fun j hj => Kd.R_below (h.sets j hj) hb, fun j hj => Kd.R_below (h.prs j hj) hb, h.out, fun k hk => Nat.lt_of_lt_of_le (h.lt k hk) hb.size⟩
theorem RListP.reads (h : RListP w base v zs ow) : ∃ A c, v = .slice A zs.length c ∧ Kd.C kRec w A zs.length (zs.map (·.x)) := by
  obtain ⟨A, c, e, _, hC⟩ := h.row.reads
  refine ⟨A, c, e, ?_⟩
  obtain ⟨h1, h2, h3⟩ := hC
  refine ⟨by rw [List.length_map], h2, fun hn => ?_⟩
  obtain ⟨ad, ea, hc⟩ := h3 hn
  refine ⟨ad, ea, fun j x hj => ?_⟩
  rw [List.getElem?_map] at hj
  obtain ⟨z, hz, rfl⟩ := Option.map_eq_some_iff.1 hj
  obtain ⟨cs, hl, hK, hcell⟩ := hc j z hz
  obtain ⟨hlt, hzj⟩ := List.getElem?_eq_some_iff.1 hz
  have h4 := h.sets j hlt
  have h5 := h.prs j hlt
  rw [hzj] at h4 h5
  obtain ⟨A1, c1, e1, hle1, hC1⟩ := Kd.R_reads h4
  obtain ⟨A2, c2, e2, hle2, hC2⟩ := Kd.R_reads h5
  obtain ⟨rfl, _, _⟩ := hK
  refine ⟨rawRZ z, rfl, ?_, hcell⟩
  unfold rawRZ
  rw [e1, e2]
  exact kRec_mk ⟨hC1, hC2, hle1, hle2⟩
end
theorem rs_C (w : World) (z : RecZ) (h1 : z.sv.oneCell' = true) (h2 : z.pv.oneCell' = true) {g : Nat} {t : TypeId} {fr : Nat × Nat} (h : w.heap[g]? = some (.cells (rawRZ z).toArray t fr)) : Kd.C kRR w (some ⟨g, 0, none⟩) 1 [z] := by
  refine ⟨rfl, by show 1 ≤ 9223372036854775807; omega, fun _ => ⟨_, rfl, fun j y hj => ?_⟩⟩
  have hj0 : j = 0 ∧ z = y := by
    cases j with
    | zero => simpa using hj
    | succ j => simp at hj
  obtain ⟨rfl, rfl⟩ := hj0
  refine ⟨_, rfl, ⟨rfl, h1, h2⟩, fun i u hu => ?_⟩
  rw [show 0 * kRR.sz + i = i from by rw [Nat.zero_mul, Nat.zero_add]]
  exact cells_of_blk h i u hu

theorem info_rec : (Try.prog.info? 90).map (fun i => (i.zero, i.size, i.bytes)) = some (some (.agg #[.int .i64 0, .int .i64 0, .int .i64 0, .int .i64 0, .int .i64 0, .slice none 0 0, .slice none 0 0]), 7, 88) := by kernel_rfl
theorem own_blkV {α : Type} {d : Kd α} {e : TypeId} {w : World} {base : Nat} {v : Value} {xs : List α} (h : Own d e w base v xs) {k : Nat} (hk : v.ownBlock = some k) : ∃ cs, w.heap[k]? = some (.cells cs e (0, 0)) := by
  obtain ⟨_, inner, ⟨hl, ho⟩, hr⟩ := h
  rcases ho with ⟨rfl, _⟩ | ⟨g, cap, cur, rfl, h1, h2, _⟩
  · cases hk
  · injection hk with hk
    subst hk
    exact ⟨_, h2⟩
def zeroRZ : RecZ := ⟨zeroRec, .slice none 0 0, .slice none 0 0⟩
def overRZ : RecZ := ⟨⟨-9, 0, 0, 0, 0, [], []⟩, .slice none 0 0, .slice none 0 0⟩
set_option maxHeartbeats 3200000 in
theorem overRecords (v : Value) (zs : List RecZ) (ow : Nat → Option Nat) (base : Nat) (w : World) (hL : RListP w base v zs ow) (hb : base ≤ w.heap.size) (hl : zs.length ≤ 1000000) (hsm : ∀ z ∈ zs, z.x.set.length ≤ 1000000 ∧ z.x.prs.length ≤ 1000000) :
    Calls Try.prog 28 #[v] w fun e w' => e = .returned (.tuple #[]) ∧ Ch w w' (base ≤ ·) := by
  have hu := Try.underlying90
  obtain ⟨A, c, rfl, hc, hrd⟩ := hL.row.reads
  have HO := Aside0.mk hL
  clear hrd
  rcases Nat.eq_zero_or_pos zs.length with h0 | h0
  · obtain rfl := List.eq_nil_of_length_eq_zero h0
    clear hL hl h0
    go_enter Try.func28, Try.ntmps28
    go_wp2_with fail
    go_loopg [2] 1 (fun kq v2 w' => v2 = .int .i64 0 ∧ w' = w)
    case atStart => exact ⟨rfl, rfl⟩
    case round =>
      obtain ⟨rfl, rfl⟩ := hrel
      go_wp2_with fail
      go_end0
      exact ⟨rfl, Ch.refl _ _⟩
  · obtain ⟨g, cap, he, hbg, hlt, _⟩ := Kd.R_form hL.row h0
    simp only [Value.slice.injEq] at he
    obtain ⟨rfl, _, rfl⟩ := he
    have HSM := Aside0.mk hsm
    have HBG := Aside0.mk (And.intro hb hbg)
    clear hL hsm hb hbg hlt
    go_enter Try.func28, Try.ntmps28
    go_wp2_with fail
    go_loopg [2] zs.length (fun kq v2 w' => ∃ (k : Nat) (ys : List RecZ), k + kq = zs.length ∧ v2 = .int .i64 k ∧ Aside0 (ys.length = zs.length) ∧ Aside0 (Own kRR 90 w' base (.slice (some ⟨g, 0, none⟩) zs.length c) ys) ∧ Aside0 (∀ j, k ≤ j → ys[j]? = zs[j]?) ∧
      Aside0 (∀ j (h : j < zs.length), k ≤ j → Kd.R kI 3 w' base (fun i => ow i = some j) (zs[j]).sv (zs[j]).x.set ∧ Kd.R kPair 113 w' base (fun i => ow i = some j) (zs[j]).pv (zs[j]).x.prs) ∧ Aside0 (Ch w w' (base ≤ ·)))
    case atStart => exact ⟨0, zs, by omega, rfl, ⟨rfl⟩, ⟨HO.out.row⟩, ⟨fun _ _ => rfl⟩, ⟨fun j h _ => ⟨HO.out.sets j h, HO.out.prs j h⟩⟩, ⟨Ch.refl _ _⟩⟩
    case round =>
      obtain ⟨k, ys, hk, rfl, HYS, HO1, HT, HR, HG⟩ := hrel
      by_cases hlt : k < zs.length
      · obtain ⟨z, hz⟩ : ∃ z, z = zs[k] := ⟨_, rfl⟩
        obtain ⟨hs, hp⟩ := HR.out k hlt (Nat.le_refl _)
        obtain ⟨hsl, hpl⟩ := HSM.out _ (List.getElem_mem hlt)
        rw [← hz] at hs hp hsl hpl
        have hyk : ys[k]? = some z := by rw [HT.out k (Nat.le_refl _), hz]; exact List.getElem?_eq_getElem hlt
        obtain ⟨⟨xk, xp, xs, xa, xr, st, ps⟩, sv, pv⟩ := z
        replace hs : Kd.R kI 3 wr base (fun i => ow i = some k) sv st := hs
        replace hp : Kd.R kPair 113 wr base (fun i => ow i = some k) pv ps := hp
        replace hsl : st.length ≤ 1000000 := hsl
        replace hpl : ps.length ≤ 1000000 := hpl
        obtain ⟨A1, c1, rfl, _, _⟩ := Kd.R_reads hs
        obtain ⟨A2, c2, rfl, _, _⟩ := Kd.R_reads hp
        have hsz : base ≤ wr.heap.size := Nat.le_trans HBG.out.1 HG.out.size
        have hsO : Own kI 3 wr base (.slice A1 st.length c1) st := Kd.R_mono hs (fun _ _ => trivial)
        have hpO : Own kPair 113 wr base (.slice A2 ps.length c2) ps := Kd.R_mono hp (fun _ _ => trivial)
        have hfar : ∀ k, (Value.slice A2 ps.length c2).ownBlock = some k → (Value.slice A1 st.length c1).ownBlock ≠ some k := fun k hk e => by
          obtain ⟨cs, h3⟩ := own_blkV hpO hk
          obtain ⟨cs', h4⟩ := own_blkV hsO e
          rw [h3] at h4
          injection h4 with h4
          injection h4 with _ h4
          exact absurd h4 (by decide)
        have HOV := Aside0.mk (overInts (.slice A1 st.length c1) st base wr hsO hsz (by omega))
        have HOP := Aside0.mk (show ∀ w1, wr.grownBy w1 (Value.slice A1 st.length c1).ownBlock → Calls Try.prog 60 #[.slice A2 ps.length c2] w1 fun e w' => e = .returned (.tuple #[]) ∧ w1.grownBy w' (Value.slice A2 ps.length c2).ownBlock from fun w1 h3 => overPairs (.slice A2 ps.length c2) ps base w1 (hpO.other flat_pair h3 hfar) (Nat.le_trans hsz h3.size) (by omega))
        have hown : ∀ i, ((Value.slice A1 st.length c1).ownBlock = some i ∨ (Value.slice A2 ps.length c2).ownBlock = some i) → ow i = some k := fun i hi => by
          rcases hi with hi | hi
          · exact hs.1 i hi
          · exact hp.1 i hi
        have hel : ∀ (w1 : World) (us : List RecZ), us.length = zs.length → us[k]? = some ⟨⟨xk, xp, xs, xa, xr, st, ps⟩, .slice A1 st.length c1, .slice A2 ps.length c2⟩ → Own kRR 90 w1 base (.slice (some ⟨g, 0, none⟩) zs.length c) us → (w1.cell? ⟨g, k * 7 + 5, none⟩ = some (.slice A1 st.length c1) ∧ w1.cell? ⟨g, k * 7 + 6, none⟩ = some (.slice A2 ps.length c2)) ∧ (∀ j, j < 7 → ∃ u, w1.cell? ⟨g, k * 7 + j, none⟩ = some u) ∧ (∀ i, w1.frozen? ⟨g, k * 7 + i, none⟩ = false) ∧ Own kRR 90 (w1.setCells g (k * 7) (rawRZ overRZ)) base (.slice (some ⟨g, 0, none⟩) zs.length c) (us.set k overRZ) ∧ w1.grownBy (w1.setCells g (k * 7) (rawRZ overRZ)) (some g) := fun w1 us hus huk hO => by
          obtain ⟨ce, hcl, hM, hcc, hfr⟩ := Kd.R_elem hO zeroRZ (k : Int) (by omega) (by omega)
          have e : us.getD (k : Int).toNat zeroRZ = ⟨⟨xk, xp, xs, xa, xr, st, ps⟩, .slice A1 st.length c1, .slice A2 ps.length c2⟩ := by rw [Int.toNat_natCast, List.getD_eq_getElem?_getD, huk]; rfl
          rw [e] at hM
          obtain ⟨hce, h1, h2⟩ := hM
          obtain ⟨hput, hgp⟩ := Kd.R_seg hO (k : Int) (by omega) (by omega) (seg := rawRZ overRZ) (j := 0) hcl hcc (by decide) (x' := overRZ) (okp := fun _ => False) (by rw [hce]; exact ⟨rfl, rfl, rfl⟩) (fun _ h => h.elim)
          rw [hce] at hcc
          rw [Int.toNat_natCast] at hcc hfr hput hgp
          exact ⟨⟨hcc 5 _ rfl, hcc 6 _ rfl⟩, fun j hj => ⟨_, hcc j _ (List.getElem?_eq_getElem (show j < (rawRZ ⟨⟨xk, xp, xs, xa, xr, st, ps⟩, .slice A1 st.length c1, .slice A2 ps.length c2⟩).length from hj))⟩, hfr, hput, hgp⟩
        have HEL := Aside0.mk hel
        obtain ⟨⟨hc5, hc6⟩, _⟩ := hel wr ys HYS.out hyk HO1.out
        have HNX : Aside0 (∀ w1, Ch wr w1 (fun i => (Value.slice A1 st.length c1).ownBlock = some i ∨ (Value.slice A2 ps.length c2).ownBlock = some i) → Own kRR 90 w1 base (.slice (some ⟨g, 0, none⟩) zs.length c) ys ∧ (∀ w2, w1.grownBy w2 (some g) → Aside0 (∀ j (h : j < zs.length), k + 1 ≤ j → Kd.R kI 3 w2 base (fun i => ow i = some j) (zs[j]).sv (zs[j]).x.set ∧ Kd.R kPair 113 w2 base (fun i => ow i = some j) (zs[j]).pv (zs[j]).x.prs) ∧ Aside0 (Ch w w2 (base ≤ ·)))) := ⟨fun w1 hc1 => by
          have hc1' := hc1.mono (fun i hi => hown i hi)
          have hog : ow g = none := HO.out.out g rfl
          refine ⟨HO1.out.ch flat_RR hc1' (fun i hi e => by injection hi with hi; rw [← hi, hog] at e; cases e), fun w2 hg2 => ⟨⟨fun j hj hkj => ?_⟩, ⟨?_⟩⟩⟩
          · obtain ⟨q1, q2⟩ := HR.out j hj (by omega)
            have hst : ∀ i, ow i = some j → i < wr.heap.size → w2.heap[i]? = wr.heap[i]? := fun i hi hlt' => (hg2.block i (Nat.lt_of_lt_of_le hlt' hc1.size) (fun e => by injection e with e; rw [e, hog] at hi; cases hi)).trans (hc1'.block i hlt' (fun e => by rw [e] at hi; injection hi with hi; omega))
            exact ⟨Kd.R_step q1 hst, Kd.R_step q2 hst⟩
          · refine (HG.out.trans (hc1.mono (T := (base ≤ ·)) (fun i hi => ?_)) (fun i _ h => h)).trans (Ch.of_grown (S := (base ≤ ·)) hg2 (fun i hi => by injection hi with hi; rw [← hi]; exact HBG.out.2)) (fun i _ h => h)
            rcases hi with hi | hi
            · exact (Kd.R_bound hsO).1 i hi |>.2.1
            · exact (Kd.R_bound hpO).1 i hi |>.2.1⟩
        have HYK := Aside0.mk hyk
        have hin : (k : Int) < zs.length := by omega
        have hi0 : (0 : Int) ≤ (k : Int) := by omega
        have hP : (⟨g, 0, none⟩ : Addr).add (k * 7) = ⟨g, k * 7, none⟩ := by rw [add_plain]
        clear hs hp hsO hpO hz hyk hel hown hsl hpl hsz hfar hc6
        go_wp2_with fail
        refine HOV.out.mono ?_
        rintro e w1 ⟨rfl, hg1⟩
        have HG1 := Aside0.mk hg1
        have hO1 := (HNX.out w1 ((Ch.of_grown (S := fun i => (Value.slice A1 st.length c1).ownBlock = some i) hg1 (fun i hi => hi)).mono (fun i hi => .inl hi))).1
        obtain ⟨⟨_, hd6⟩, _⟩ := HEL.out w1 ys HYS.out HYK.out hO1
        clear hg1 hO1 hc5
        go_wp2_with fail
        refine (HOP.out w1 HG1.out).mono ?_
        rintro e w2 ⟨rfl, hg2⟩
        have hc12 : Ch wr w2 (fun i => (Value.slice A1 st.length c1).ownBlock = some i ∨ (Value.slice A2 ps.length c2).ownBlock = some i) := (Ch.of_grown (S := fun i => (Value.slice A1 st.length c1).ownBlock = some i ∨ (Value.slice A2 ps.length c2).ownBlock = some i) HG1.out (fun i hi => .inl hi)).trans (Ch.of_grown (S := fun i => (Value.slice A1 st.length c1).ownBlock = some i ∨ (Value.slice A2 ps.length c2).ownBlock = some i) hg2 (fun i hi => .inr hi)) (fun _ _ e => e)
        obtain ⟨hO2, hN2⟩ := HNX.out w2 hc12
        have HN1 := Aside0.mk hN2
        obtain ⟨_, hany, hfz, hput, hgp⟩ := HEL.out w2 ys HYS.out HYK.out hO2
        have HPUT := Aside0.mk hput
        have HGP := Aside0.mk hgp
        obtain ⟨v0, p0⟩ := hany 0 (by decide)
        obtain ⟨v1, p1⟩ := hany 1 (by decide)
        obtain ⟨v2, p2⟩ := hany 2 (by decide)
        obtain ⟨v3, p3⟩ := hany 3 (by decide)
        obtain ⟨v4, p4⟩ := hany 4 (by decide)
        obtain ⟨v5, p5⟩ := hany 5 (by decide)
        obtain ⟨v6, p6⟩ := hany 6 (by decide)
        have p0 : w2.cell? ⟨g, k * 7, none⟩ = some v0 := p0
        have z0 : w2.frozen? ⟨g, k * 7, none⟩ = false := hfz 0
        have z1 : w2.frozen? ⟨g, k * 7 + 1, none⟩ = false := hfz 1
        have z2 : w2.frozen? ⟨g, k * 7 + 2, none⟩ = false := hfz 2
        have z3 : w2.frozen? ⟨g, k * 7 + 3, none⟩ = false := hfz 3
        have z4 : w2.frozen? ⟨g, k * 7 + 4, none⟩ = false := hfz 4
        have z5 : w2.frozen? ⟨g, k * 7 + 5, none⟩ = false := hfz 5
        have z6 : w2.frozen? ⟨g, k * 7 + 6, none⟩ = false := hfz 6
        clear hg2 hc12 hO2 hN2 hany hfz hput hgp hd6
        go_wp2_with fail
        obtain ⟨w3, hw3⟩ : ∃ w3, w3 = w2.setCells g (k * 7) (rawRZ overRZ) := ⟨_, rfl⟩
        go_roundg (zs.length - (k + 1))
        case measure => omega
        case rel => exact ⟨k + 1, ys.set k overRZ, by omega, by go_num, ⟨by rw [List.length_set]; exact HYS.out⟩, HPUT, ⟨fun j hj => by rw [List.getElem?_set_ne (by omega)]; exact HT.out j (by omega)⟩, (HN1.out _ HGP.out).1, (HN1.out _ HGP.out).2⟩
      · go_wp2_with fail
        go_end0
        exact ⟨rfl, HG.out⟩
end Go.Proofs.Ytbnhhlahbhjogaa.K
