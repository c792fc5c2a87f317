/- Lists of letters are held against one another. -/
import Derived.Test.YtbnhhlahbhjogaaY2
import Derived.Deep.QuietTactic
import Derived.BigQuiet
set_option linter.unusedVariables false
set_option linter.unusedSimpArgs false
set_option maxRecDepth 100000
namespace Go.Proofs.Ytbnhhlahbhjogaa.K
open Go.RowKit Go.Proofs.YtbnhhlahbhjogaaW.PrintWords Go.Proofs.YtbnhhlahbhjogaaW.PrintLast Go.Proofs.YtbnhhlahbhjogaaW.PrintMore Go.Proofs.Ytbnhhlahbhjogaa.U Go.Proofs.Ytbnhhlahbhjogaa.T

/-- The cells of letter x at address p, as a walk reckons them. -/
structure LetAt (w : World) (p : Addr) (fr dst : Int) (m : MsgD) (sv pv : Value) : Prop where
  c0 : w.cell? p = some (.int .i64 fr)
  c1 : w.cell? ⟨p.block, p.off + 1, none⟩ = some (.int .i64 dst)
  c2 : w.cell? ⟨p.block, p.off + 2, none⟩ = some (.int .i64 m.k)
  c3 : w.cell? ⟨p.block, p.off + 3, none⟩ = some (.int .i64 m.s)
  c4 : w.cell? ⟨p.block, p.off + 4, none⟩ = some (.int .i64 m.a)
  c5 : w.cell? ⟨p.block, p.off + 5, none⟩ = some (.int .i64 m.p)
  c6 : w.cell? ⟨p.block, p.off + 6, none⟩ = some (.int .i64 m.q)
  c7 : w.cell? ⟨p.block, p.off + 7, none⟩ = some (.int .i64 m.n)
  c8 : w.cell? ⟨p.block, p.off + 8, none⟩ = some (.int .i64 m.e)
  c9 : w.cell? ⟨p.block, p.off + 9, none⟩ = some (.int .i64 m.r)
  ca : w.cell? ⟨p.block, p.off + 10, none⟩ = some sv
  cb : w.cell? ⟨p.block, p.off + 11, none⟩ = some pv
theorem LetAt.of {w : World} {ad : Addr} {n : Nat} {x : LetD} {sv pv : Value} (h : ∀ i u, (rawL x sv pv)[i]? = some u → w.cell? (ad.add (n + i)) = some u) : LetAt w (ad.add n) x.fr x.dst x.m sv pv := by
  have key : ∀ i u, (rawL x sv pv)[i + 1]? = some u → w.cell? ⟨(ad.add n).block, (ad.add n).off + (i + 1), none⟩ = some u := by
    intro i u hu
    have := h (i + 1) u hu
    rw [show n + (i + 1) = n + i + 1 from by omega] at this
    by_cases h0 : i = 0
    · subst h0
      rw [← add_add'] at this
      exact this
    · rw [← this]
      congr 1
      simp [Addr.add]
      split
      · simp_all
      · simp; omega
  exact ⟨h 0 _ rfl, key 0 _ rfl, key 1 _ rfl, key 2 _ rfl, key 3 _ rfl, key 4 _ rfl, key 5 _ rfl, key 6 _ rfl, key 7 _ rfl, key 8 _ rfl, key 9 _ rfl, key 10 _ rfl⟩
theorem LetAt.below {w w' : World} {p : Addr} {fr dst : Int} {m : MsgD} {sv pv : Value} (h : LetAt w p fr dst m sv pv) (hb : Below w.heap.size w w') : LetAt w' p fr dst m sv pv := by
  have key : ∀ a v, w.cell? a = some v → w'.cell? a = some v := fun a v hc => (hb.cell (World.block_lt_of_cell? w a hc)).trans hc
  exact ⟨key _ _ h.c0, key _ _ h.c1, key _ _ h.c2, key _ _ h.c3, key _ _ h.c4, key _ _ h.c5, key _ _ h.c6, key _ _ h.c7, key _ _ h.c8, key _ _ h.c9, key _ _ h.ca, key _ _ h.cb⟩
theorem bool_iff (p : Prop) : ∃ r : Bool, r = true ↔ p := by
  by_cases h : p
  · exact ⟨true, by simp [h]⟩
  · exact ⟨false, by simp [h]⟩
set_option maxHeartbeats 6400000 in
theorem sameLetters (A0 : Option Addr) (c0 : Nat) (l0 : List LetD) (A1' : Option Addr) (c1' : Nat) (l1 : List LetD) (w : World) (hr0 : Kd.C kLet w A0 l0.length l0) (hr1 : Kd.C kLet w A1' l1.length l1) (hmx : l0.length ≤ 1000000) (r : Bool) (hr : r = true ↔ l0 = l1) :
    Calls Try.prog 17 #[.slice A0 l0.length c0, .slice A1' l1.length c1'] w fun e w' => e = .returned (.bool r) ∧ Below w.heap.size w w' := by
  have HR := Aside0.mk hr
  have HR0 := Aside0.mk hr0
  have HR1 := Aside0.mk hr1
  clear hr hr0 hr1
  by_cases hl : l0.length = l1.length
  case' neg =>
    have hb1 : ((l0.length : Int) == (l1.length : Int)) = false := by simpa using fun h : (l0.length : Int) = l1.length => hl (by omega)
    have hb2 : ((l0.length : Int) != (l1.length : Int)) = true := by simpa using fun h : (l0.length : Int) = l1.length => hl (by omega)
    have hrf : r = false := by
      cases r with
      | false => rfl
      | true => exact absurd (by rw [HR.out.1 rfl]) hl
    subst hrf
    clear hl
    go_enter Try.func17, Try.ntmps17
    go_wp2_with fail
    go_ret
    exact ⟨rfl, Below.refl _ _⟩
  have HL := Aside0.mk hl
  have hb2 : ((l0.length : Int) != (l1.length : Int)) = false := by simp [hl]
  clear hl
  have hu := Try.underlying51
  have hum := Try.underlying45
  go_enter Try.func17, Try.ntmps17
  go_wp2_with fail
  clear hb2
  go_loopg [5] l0.length (fun kq v5 w' => ∃ k : Nat, k + kq = l0.length ∧ v5 = .int .i64 k ∧ Aside0 (l0.take k = l1.take k) ∧ Aside0 (HeldN w w'))
  case atStart => exact ⟨0, by omega, rfl, ⟨by simp⟩, ⟨Below.refl _ _⟩⟩
  case round =>
    obtain ⟨k, hk, rfl, HT, HB⟩ := hrel
    by_cases hlt : k < l0.length
    case' neg =>
      have hltI : ¬ (k : Int) < l0.length := by omega
      have hrt : r = true := by
        rw [HR.out]
        have h2 := HT.out
        rw [List.take_of_length_le (show l0.length ≤ k from by omega), List.take_of_length_le (show l1.length ≤ k from by have := HL.out; omega)] at h2
        exact h2
      subst hrt
      go_wp2_with fail
      go_ret
      exact ⟨rfl, HB.out⟩
    have hlt1 : k < l1.length := by have := HL.out; omega
    obtain ⟨ad0, A1, A2, c1, c2, rfl, hm0, hc0⟩ := at_let (Kd.C_below HR0.out HB.out) k hlt
    obtain ⟨ad1, B1, B2, d1, d2, rfl, hm1, hc1⟩ := at_let (Kd.C_below HR1.out HB.out) k hlt1
    obtain ⟨x, hx⟩ : ∃ x, x = l0[k]'hlt := ⟨_, rfl⟩
    obtain ⟨y, hy⟩ : ∃ y, y = l1[k]'hlt1 := ⟨_, rfl⟩
    rw [← hx] at hm0 hc0
    rw [← hy] at hm1 hc1
    obtain ⟨fr, dst, mx⟩ := x
    obtain ⟨fr', dst', my⟩ := y
    have hlx : LetAt wr (ad0.add (k * 12)) fr dst mx (.slice A1 mx.set.length c1) (.slice A2 mx.prs.length c2) := LetAt.of hc0
    have hly : LetAt wr (ad1.add (k * 12)) fr' dst' my (.slice B1 my.set.length d1) (.slice B2 my.prs.length d2) := LetAt.of hc1
    have hm0 : MsgC wr mx A1 A2 c1 c2 := hm0
    have hm1 : MsgC wr my B1 B2 d1 d2 := hm1
    obtain ⟨P0, hP0⟩ : ∃ P, ad0.add (k * 12) = P := ⟨_, rfl⟩
    obtain ⟨P1, hP1⟩ : ∃ P, ad1.add (k * 12) = P := ⟨_, rfl⟩
    rw [hP0] at hlx
    rw [hP1] at hly
    obtain ⟨g0, o0, z0⟩ := P0
    obtain ⟨g1, o1, z1⟩ := P1
    have HLX := Aside0.mk hlx
    have HLY := Aside0.mk hly
    clear hlx hly
    have HMX := Aside0.mk hm0
    have HMY := Aside0.mk hm1
    have t0 : l0.take (k + 1) = l0.take k ++ [⟨fr, dst, mx⟩] := by rw [List.take_succ_eq_append_getElem hlt, hx]
    have t1 : l1.take (k + 1) = l1.take k ++ [⟨fr', dst', my⟩] := by rw [List.take_succ_eq_append_getElem hlt1, hy]
    have G0 := Aside0.mk t0
    have G1 := Aside0.mk t1
    have HNE : Aside0 ((⟨fr, dst, mx⟩ : LetD) ≠ ⟨fr', dst', my⟩ → r = false) := ⟨fun hne => by
      cases r with
      | false => rfl
      | true =>
        have h := HR.out.1 rfl
        subst h
        exact absurd (hx.trans hy.symm) hne⟩
    have hltI : (k : Int) < l0.length := by omega
    have hltI1 : (k : Int) < l1.length := by omega
    have hk0 : (0 : Int) ≤ (k : Int) := by omega
    obtain ⟨sx, hsx⟩ : ∃ n, n = mx.set.length := ⟨_, rfl⟩
    obtain ⟨px, hpx⟩ : ∃ n, n = mx.prs.length := ⟨_, rfl⟩
    obtain ⟨sy, hsy⟩ : ∃ n, n = my.set.length := ⟨_, rfl⟩
    obtain ⟨py, hpy⟩ : ∃ n, n = my.prs.length := ⟨_, rfl⟩
    rw [← hsx, ← hpx] at HLX
    rw [← hsy, ← hpy] at HLY
    obtain ⟨q, hq⟩ := bool_iff (mx = my)
    have HQ := Aside0.mk hq
    have HSM : Aside0 (∀ w', HeldN wr w' → Calls Try.prog 21 #[.agg #[.int .i64 mx.k, .int .i64 mx.s, .int .i64 mx.a, .int .i64 mx.p, .int .i64 mx.q, .int .i64 mx.n, .int .i64 mx.e, .int .i64 mx.r, .slice A1 sx c1, .slice A2 px c2], .agg #[.int .i64 my.k, .int .i64 my.s, .int .i64 my.a, .int .i64 my.p, .int .i64 my.q, .int .i64 my.n, .int .i64 my.e, .int .i64 my.r, .slice B1 sy d1, .slice B2 py d2]] w' fun e w'' => e = .returned (.bool q) ∧ HeldN wr w'') := ⟨fun w' hw => by
      rw [hsx, hpx, hsy, hpy]
      refine (sameMessage mx my A1 A2 B1 B2 c1 c2 d1 d2 w' (HMX.out.below hw) (HMY.out.below hw) q HQ.out).mono ?_
      rintro e w'' ⟨rfl, hb⟩
      exact ⟨rfl, hw.then_ hb⟩⟩
    obtain ⟨f0, f1, f2, f3, f4, f5, f6, f7, f8, f9, fa, fb⟩ := HLX.out
    obtain ⟨e0, e1, e2, e3, e4, e5, e6, e7, e8, e9, ea, eb⟩ := HLY.out
    have hkeep : ∀ w', HeldN wr w' → w'.cell? ⟨g0, o0, z0⟩ = some (.int .i64 fr) ∧ w'.cell? (⟨g0, o0 + 1, none⟩) = some (.int .i64 dst) ∧ w'.cell? (⟨g0, o0 + 2, none⟩) = some (.int .i64 mx.k) ∧ w'.cell? (⟨g0, o0 + 3, none⟩) = some (.int .i64 mx.s) ∧ w'.cell? (⟨g0, o0 + 4, none⟩) = some (.int .i64 mx.a) ∧ w'.cell? (⟨g0, o0 + 5, none⟩) = some (.int .i64 mx.p) ∧ w'.cell? (⟨g0, o0 + 6, none⟩) = some (.int .i64 mx.q) ∧ w'.cell? (⟨g0, o0 + 7, none⟩) = some (.int .i64 mx.n) ∧ w'.cell? (⟨g0, o0 + 8, none⟩) = some (.int .i64 mx.e) ∧ w'.cell? (⟨g0, o0 + 9, none⟩) = some (.int .i64 mx.r) ∧ w'.cell? (⟨g0, o0 + 10, none⟩) = some ((.slice A1 sx c1)) ∧ w'.cell? (⟨g0, o0 + 11, none⟩) = some ((.slice A2 px c2)) ∧ w'.cell? ⟨g1, o1, z1⟩ = some (.int .i64 fr') ∧ w'.cell? (⟨g1, o1 + 1, none⟩) = some (.int .i64 dst') ∧ w'.cell? (⟨g1, o1 + 2, none⟩) = some (.int .i64 my.k) ∧ w'.cell? (⟨g1, o1 + 3, none⟩) = some (.int .i64 my.s) ∧ w'.cell? (⟨g1, o1 + 4, none⟩) = some (.int .i64 my.a) ∧ w'.cell? (⟨g1, o1 + 5, none⟩) = some (.int .i64 my.p) ∧ w'.cell? (⟨g1, o1 + 6, none⟩) = some (.int .i64 my.q) ∧ w'.cell? (⟨g1, o1 + 7, none⟩) = some (.int .i64 my.n) ∧ w'.cell? (⟨g1, o1 + 8, none⟩) = some (.int .i64 my.e) ∧ w'.cell? (⟨g1, o1 + 9, none⟩) = some (.int .i64 my.r) ∧ w'.cell? (⟨g1, o1 + 10, none⟩) = some ((.slice B1 sy d1)) ∧ w'.cell? (⟨g1, o1 + 11, none⟩) = some ((.slice B2 py d2)) := fun w' h => by
      obtain ⟨f0, f1, f2, f3, f4, f5, f6, f7, f8, f9, fa, fb⟩ := HLX.out.below h
      obtain ⟨e0, e1, e2, e3, e4, e5, e6, e7, e8, e9, ea, eb⟩ := HLY.out.below h
      exact ⟨f0, f1, f2, f3, f4, f5, f6, f7, f8, f9, fa, fb, e0, e1, e2, e3, e4, e5, e6, e7, e8, e9, ea, eb⟩
    have hh0 : HeldN wr wr := Below.refl _ _
    have hhd : ∀ w', HeldN wr w' → HeldN wr w'.drew := fun w' h => h.then_ (below_drew w')
    have hnum := hmx
    clear hx hy hm0 hm1 hc0 hc1 t0 t1 hsx hpx hsy hpy hq
    by_cases hfr : fr = fr'
    case' neg =>
      have b0 : (fr != fr') = true := by simpa using hfr
      have hrf : r = false := HNE.out (fun h => hfr (by injection h))
      subst hrf
      clear hfr
      go_wp2_with fail
      go_quiet (fail)
      go_wp2_with fail
      go_ret
      exact ⟨rfl, HB.out.then_ (pw_below_drewN (Below.refl _ _) _)⟩
    subst hfr
    have b0 : (fr != fr) = false := by simp
    by_cases hdst : dst = dst'
    case' neg =>
      have b1 : (dst != dst') = true := by simpa using hdst
      have hrf : r = false := HNE.out (fun h => hdst (by injection h))
      subst hrf
      clear hdst
      go_wp2_with fail
      go_quiet (fail)
      go_wp2_with fail
      go_ret
      exact ⟨rfl, HB.out.then_ (pw_below_drewN (Below.refl _ _) _)⟩
    subst hdst
    have b1 : (dst != dst) = false := by simp
    cases q
    · have hrf : r = false := HNE.out (fun h => by
        have := HQ.out.2 (by injection h)
        cases this)
      subst hrf
      go_wp2_with fail
      go_region_held3 (fun w' => w'.cell? ⟨g0, o0, z0⟩ = some (.int .i64 fr) ∧ w'.cell? ⟨g0, o0 + 1, none⟩ = some (.int .i64 dst) ∧ w'.cell? ⟨g0, o0 + 2, none⟩ = some (.int .i64 mx.k) ∧ w'.cell? ⟨g0, o0 + 3, none⟩ = some (.int .i64 mx.s) ∧ w'.cell? ⟨g0, o0 + 4, none⟩ = some (.int .i64 mx.a) ∧ w'.cell? ⟨g0, o0 + 5, none⟩ = some (.int .i64 mx.p) ∧ w'.cell? ⟨g0, o0 + 6, none⟩ = some (.int .i64 mx.q) ∧ w'.cell? ⟨g0, o0 + 7, none⟩ = some (.int .i64 mx.n) ∧ w'.cell? ⟨g0, o0 + 8, none⟩ = some (.int .i64 mx.e) ∧ w'.cell? ⟨g0, o0 + 9, none⟩ = some (.int .i64 mx.r) ∧ w'.cell? ⟨g0, o0 + 10, none⟩ = some (.slice A1 sx c1) ∧ w'.cell? ⟨g0, o0 + 11, none⟩ = some (.slice A2 px c2) ∧ w'.cell? ⟨g1, o1, z1⟩ = some (.int .i64 fr) ∧ w'.cell? ⟨g1, o1 + 1, none⟩ = some (.int .i64 dst) ∧ w'.cell? ⟨g1, o1 + 2, none⟩ = some (.int .i64 my.k) ∧ w'.cell? ⟨g1, o1 + 3, none⟩ = some (.int .i64 my.s) ∧ w'.cell? ⟨g1, o1 + 4, none⟩ = some (.int .i64 my.a) ∧ w'.cell? ⟨g1, o1 + 5, none⟩ = some (.int .i64 my.p) ∧ w'.cell? ⟨g1, o1 + 6, none⟩ = some (.int .i64 my.q) ∧ w'.cell? ⟨g1, o1 + 7, none⟩ = some (.int .i64 my.n) ∧ w'.cell? ⟨g1, o1 + 8, none⟩ = some (.int .i64 my.e) ∧ w'.cell? ⟨g1, o1 + 9, none⟩ = some (.int .i64 my.r) ∧ w'.cell? ⟨g1, o1 + 10, none⟩ = some (.slice B1 sy d1) ∧ w'.cell? ⟨g1, o1 + 11, none⟩ = some (.slice B2 py d2)) (first | assumption | exact hkeep _ (by assumption) | exact hkeep _ (hhd _ (by assumption))) (first | (go_at_call 21; refine (HSM.out _ (by first | assumption | exact hhd _ (by assumption))).mono ?_; rintro e wz ⟨rfl, hHz⟩))
      go_wp2_with fail
      go_ret
      exact ⟨rfl, HB.out.then_ (by assumption)⟩
    · have hxy : mx = my := HQ.out.1 rfl
      subst hxy
      go_wp2_with fail
      go_region_held3 (fun w' => w'.cell? ⟨g0, o0, z0⟩ = some (.int .i64 fr) ∧ w'.cell? ⟨g0, o0 + 1, none⟩ = some (.int .i64 dst) ∧ w'.cell? ⟨g0, o0 + 2, none⟩ = some (.int .i64 mx.k) ∧ w'.cell? ⟨g0, o0 + 3, none⟩ = some (.int .i64 mx.s) ∧ w'.cell? ⟨g0, o0 + 4, none⟩ = some (.int .i64 mx.a) ∧ w'.cell? ⟨g0, o0 + 5, none⟩ = some (.int .i64 mx.p) ∧ w'.cell? ⟨g0, o0 + 6, none⟩ = some (.int .i64 mx.q) ∧ w'.cell? ⟨g0, o0 + 7, none⟩ = some (.int .i64 mx.n) ∧ w'.cell? ⟨g0, o0 + 8, none⟩ = some (.int .i64 mx.e) ∧ w'.cell? ⟨g0, o0 + 9, none⟩ = some (.int .i64 mx.r) ∧ w'.cell? ⟨g0, o0 + 10, none⟩ = some (.slice A1 sx c1) ∧ w'.cell? ⟨g0, o0 + 11, none⟩ = some (.slice A2 px c2) ∧ w'.cell? ⟨g1, o1, z1⟩ = some (.int .i64 fr) ∧ w'.cell? ⟨g1, o1 + 1, none⟩ = some (.int .i64 dst) ∧ w'.cell? ⟨g1, o1 + 2, none⟩ = some (.int .i64 mx.k) ∧ w'.cell? ⟨g1, o1 + 3, none⟩ = some (.int .i64 mx.s) ∧ w'.cell? ⟨g1, o1 + 4, none⟩ = some (.int .i64 mx.a) ∧ w'.cell? ⟨g1, o1 + 5, none⟩ = some (.int .i64 mx.p) ∧ w'.cell? ⟨g1, o1 + 6, none⟩ = some (.int .i64 mx.q) ∧ w'.cell? ⟨g1, o1 + 7, none⟩ = some (.int .i64 mx.n) ∧ w'.cell? ⟨g1, o1 + 8, none⟩ = some (.int .i64 mx.e) ∧ w'.cell? ⟨g1, o1 + 9, none⟩ = some (.int .i64 mx.r) ∧ w'.cell? ⟨g1, o1 + 10, none⟩ = some (.slice B1 sy d1) ∧ w'.cell? ⟨g1, o1 + 11, none⟩ = some (.slice B2 py d2)) (first | assumption | exact hkeep _ (by assumption) | exact hkeep _ (hhd _ (by assumption))) (first | (go_at_call 21; refine (HSM.out _ (by first | assumption | exact hhd _ (by assumption))).mono ?_; rintro e wz ⟨rfl, hHz⟩))
      go_wp2_with fail
      go_roundg (l0.length - (k + 1))
      case measure => omega
      case rel => exact ⟨k + 1, by omega, by go_num, ⟨by rw [G0.out, G1.out, HT.out]⟩, ⟨HB.out.then_ (by assumption)⟩⟩
end Go.Proofs.Ytbnhhlahbhjogaa.K
