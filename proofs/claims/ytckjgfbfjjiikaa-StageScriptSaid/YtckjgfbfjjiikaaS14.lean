/- The document's stage: Put. WRITTEN BY wip/gen_s14.py. -/
import Derived.Test.YtckjgfbfjjiikaaS13
import Derived.Test.YtckjgfbfjjiikaaRL
set_option linter.unusedVariables false
set_option linter.unusedSimpArgs false
set_option maxRecDepth 100000
namespace Go.Proofs.Ytckjgfbfjjiikaa.K
open Go.RowKit Go.Proofs.YtckjgfbfjjiikaaW.PrintWords Go.Proofs.YtckjgfbfjjiikaaW.PrintLast Go.Proofs.YtckjgfbfjjiikaaW.PrintMore Go.Proofs.Ytckjgfbfjjiikaa.U Go.Proofs.Ytckjgfbfjjiikaa.T

theorem below_drewS (w : World) : Below w.heap.size w w.drew := ⟨rfl, rfl, rfl, Nat.le_refl _, fun _ _ => rfl⟩
theorem hd_C (w : World) (x : Hd) {g : Nat} {t : TypeId} {fr : Nat × Nat} (h : w.heap[g]? = some (.cells ([hdV x] : List Value).toArray t fr)) : Kd.C kHd w (some ⟨g, 0, none⟩) 1 [x] := by
  refine ⟨rfl, by show 1 ≤ 9223372036854775807; omega, fun _ => ⟨_, rfl, fun j y hj => ?_⟩⟩
  have hj0 : j = 0 ∧ x = y := by
    cases j with
    | zero => simpa using hj
    | succ j => simp at hj
  obtain ⟨rfl, rfl⟩ := hj0
  refine ⟨_, rfl, rfl, fun i u hu => ?_⟩
  rw [show 0 * kHd.sz + i = i from by rw [Nat.zero_mul, Nat.zero_add]]
  exact cells_of_blk h i u hu
theorem own_blkS {α : Type} {d : Kd α} {e : TypeId} {w : World} {base : Nat} {v : Value} {xs : List α} (h : Own d e w base v xs) {k : Nat} (hk : v.ownBlock = some k) : ∃ cs, w.heap[k]? = some (.cells cs e (0, 0)) := by
  obtain ⟨_, inner, ⟨hl, ho⟩, hr⟩ := h
  rcases ho with ⟨rfl, _⟩ | ⟨g, cap, cur, rfl, h1, h2, _⟩
  · cases hk
  · injection hk with hk
    subst hk
    exact ⟨_, h2⟩
section
variable {w w' : World} {gR : Nat} {P Z S : Nat → Prop} {v : Value} {es : List ER} {ks : List (Int × Int)} {M : Int → Int → List (List PairD)}
/-- A chunk is put to a row. -/
theorem RefP.chunk {g cm : Nat} (p : RefP w gR P Z (.slice (some ⟨g, 0, none⟩) es.length cm) es ks M) (nd : ks.Nodup) (a b : Int) (k : Nat) (hk : k < es.length) (hkk : k < ks.length) (hkey : ks[k] = (a, b)) (v7 : Value) (x : Hd) (ps : List PairD) (hxn : x.n = ps.length) (w17 : World) (hb : Below w.heap.size w w17)
    (hO : Own kHd 45 w17 w.heap.size v7 (es[k].hs ++ [x])) (hQ : Own kPair 80 w17 w.heap.size (hdV x) ps) (wE : World) (hE : wE = w17.setCell ⟨g, k * 3 + 2, none⟩ v7) :
    (∃ P', RefS wE gR P' ks (putM M a b ps) ∧ ∀ k, P' k → P k ∨ w.heap.size ≤ k) ∧ Ch w wE P := by
  have hq := p.below hb
  have hgR := p.plt _ p.pR
  have hgP : P g := (p.pV g rfl).1
  have hgne : g ≠ gR := (p.pV g rfl).2.1
  have hgZ : ¬ Z g := (p.pV g rfl).2.2
  have hglt := p.plt _ hgP
  have hc3 : Ch w17 wE (fun k => k = g) := by rw [hE]; exact (Ch.refl w17 (fun k => k = g)).setCell _ _ rfl
  have hcE : Ch w wE (fun k => k = g) := (Ch.of_below hb _).trans hc3 (fun _ _ h => h)
  have hOl := Own.lt hO
  have hOb := Own.base_ hO
  have hsz : wE.heap.size = w17.heap.size := by rw [hE]; simp [World.setCell]
  have hst : ∀ i, Z i → i < w.heap.size → wE.heap[i]? = w.heap[i]? := fun i hi hlt => hcE.block i hlt (fun e => hgZ (e ▸ hi))
  have hke := p.key k hk hkk
  rw [hkey] at hke
  obtain ⟨ea, eb⟩ := Prod.mk.inj hke
  -- the row itself
  obtain ⟨y, hy⟩ : ∃ y : ER, y = ⟨a, b, v7, es[k].hs ++ [x]⟩ := ⟨_, rfl⟩
  have hv7 : v7.oneCell' = true := by
    obtain ⟨A7, c7, e7, _⟩ := hO.reads
    rw [e7]; rfl
  have hrow : Own kER 87 wE 0 (.slice (some ⟨g, 0, none⟩) es.length cm) (es.set k y) := by
    obtain ⟨ce, hcl, hM, hcc, hfr⟩ := Kd.R_elem hq.row zeroER (k : Int) (by omega) (by omega)
    have e : es.getD (k : Int).toNat zeroER = es[k] := by rw [Int.toNat_natCast, List.getD_eq_getElem?_getD, List.getElem?_eq_getElem hk]; rfl
    rw [e] at hM
    obtain ⟨hce, _⟩ := hM
    obtain ⟨hput, _⟩ := Kd.R_seg hq.row (k : Int) (by omega) (by omega) (seg := [v7]) (j := 2) hcl hcc (by show 2 + 1 ≤ 3; omega) (x' := y) (okp := fun _ => False) (by
      rw [hce, hy]
      refine ⟨?_, hv7⟩
      unfold rawE
      rw [ea, eb]
      rfl) (fun _ h => h.elim)
    rw [Int.toNat_natCast] at hput
    rw [hE]
    exact hput
  have hmem : ∀ e ∈ es.set k y, e = y ∨ (e ∈ es ∧ ¬ (e.a = a ∧ e.b = b)) := fun e he => by
    obtain ⟨j, hj, rfl⟩ := List.getElem_of_mem he
    rw [List.length_set] at hj
    by_cases hjk : k = j
    · subst hjk
      exact .inl (List.getElem_set_self _)
    · rw [List.getElem_set_ne hjk]
      refine .inr ⟨List.getElem_mem hj, fun h => hjk ?_⟩
      have hjj : j < ks.length := by rw [← p.len]; exact hj
      have h2 := p.key j hj hjj
      rw [h.1, h.2, ← hkey] at h2
      exact (List.getElem_inj nd).1 h2.symm
  have hMy : putM M a b ps a b = M a b ++ [ps] := by unfold putM; rw [if_pos ⟨rfl, rfl⟩]
  have hMn : ∀ e : ER, ¬ (e.a = a ∧ e.b = b) → putM M a b ps e.a e.b = M e.a e.b := fun e h => by unfold putM; rw [if_neg h]
  obtain ⟨h1, h2, h3⟩ := p.hd es[k] (List.getElem_mem hk)
  have hch := p.ch es[k] (List.getElem_mem hk)
  have hXe : M es[k].a es[k].b = M a b := by rw [← ea, ← eb]
  refine ⟨⟨fun i => P i ∨ (w.heap.size ≤ i ∧ i < wE.heap.size), ⟨fun i => Z i ∨ (w.heap.size ≤ i ∧ i < wE.heap.size), .slice (some ⟨g, 0, none⟩) es.length cm, es.set k y, ?_⟩, fun i hi => ?_⟩, hcE.mono (fun i hi => by rw [hi]; exact hgP)⟩
  · refine ⟨hc3.blk hq.blk (fun e => hgne e.symm), hrow, ?_, fun e he => ?_, fun e he i g1 g2 => ?_, .inl p.pR, fun i hi => ?_, fun i hi => ?_, fun i hi => ?_⟩
    · rw [List.map_set, p.keys, hy]
      show ks.set k (a, b) = ks
      rw [← hkey]
      exact List.set_getElem_self hkk
    · rcases hmem e he with rfl | ⟨hm, hn⟩
      · rw [hy]
        refine ⟨Own.lower (hO.ch flat_hd hc3 (fun i hi e => by have := hOb i hi; omega)) (Nat.zero_le _), fun i hi => .inr ⟨hOb i hi, by rw [hsz]; exact hOl i hi⟩, ?_⟩
        show (es[k].hs ++ [x]).length = (putM M a b ps a b).length
        rw [hMy, List.length_append, List.length_append, h3, hXe]
        rfl
      · obtain ⟨q1, q2, q3⟩ := p.hd e hm
        rw [hMn e hn]
        exact ⟨q1.ch flat_hd hcE (fun i hi hh => hgZ (by rw [← hh]; exact q2 i hi)), fun i hi => .inl (q2 i hi), q3⟩
    · rcases hmem e he with rfl | ⟨hm, hn⟩
      · have eM : putM M a b ps e.a e.b = M a b ++ [ps] := by rw [hy]; exact hMy
        have eH : e.hs = es[k].hs ++ [x] := by rw [hy]
        have g1' : i < (es[k].hs ++ [x]).length := by rw [← eH]; exact g1
        have g2' : i < (M a b ++ [ps]).length := by rw [← eM]; exact g2
        have w1 : e.hs[i] = (es[k].hs ++ [x])[i] := by simp [eH]
        have w2 : (putM M a b ps e.a e.b)[i] = (M a b ++ [ps])[i] := by simp [eM]
        rw [w1, w2]
        have hlen : es[k].hs.length = (M a b).length := by rw [h3, hXe]
        by_cases hi : i < es[k].hs.length
        · rw [List.getElem_append_left hi, List.getElem_append_left (by omega)]
          have := hch i hi (by rw [hXe]; omega)
          have w3 : (M es[k].a es[k].b)[i]'(by rw [hXe]; omega) = (M a b)[i]'(by omega) := by simp [hXe]
          rw [w3] at this
          exact Kd.R_mono (Kd.R_step this hst) (fun j hj => .inl hj)
        · have hie : i = es[k].hs.length := by rw [List.length_append, List.length_singleton] at g1'; omega
          subst hie
          have w4 : (es[k].hs ++ [x])[es[k].hs.length]'g1' = x := by simp
          have w5 : (M a b ++ [ps])[es[k].hs.length]'g2' = ps := by
            rw [List.getElem_append_right (by omega)]
            simp [hlen]
          rw [w4, w5]
          have hQE : Own kPair 80 wE w.heap.size (hdV x) ps := hQ.ch flat_pair hc3 (fun i hi e => by have := Own.base_ hQ i hi; omega)
          exact Kd.R_mono (Kd.R_lower (Kd.R_bound hQE) (Nat.zero_le _)) (fun j hj => .inr ⟨hj.2.1, hj.2.2.1⟩)
      · have eM : putM M a b ps e.a e.b = M e.a e.b := hMn e hn
        have g2' : i < (M e.a e.b).length := by rw [← eM]; exact g2
        have w2 : (putM M a b ps e.a e.b)[i] = (M e.a e.b)[i] := by simp [eM]
        rw [w2]
        exact Kd.R_mono (Kd.R_step (p.ch e hm i g1 g2') hst) (fun j hj => .inl hj)
    · have hgi : g = i := by injection hi
      rw [← hgi]
      exact ⟨.inl hgP, hgne, fun hz => by rcases hz with hz | hz; exact hgZ hz; omega⟩
    · rcases hi with hi | hi
      · exact ⟨.inl (p.pZ i hi).1, (p.pZ i hi).2⟩
      · exact ⟨.inr hi, by omega⟩
    · rcases hi with hi | hi
      · exact Nat.lt_of_lt_of_le (p.plt i hi) hcE.size
      · exact hi.2
  · rcases hi with hi | hi
    · exact .inl hi
    · exact .inr hi.1
/-- A row is put behind the others. -/
theorem RefP.addRow (p : RefP w gR P Z v es ks M) (a b : Int) (hM : M a b = []) (v' : Value) (w3 : World) (hc : Ch w w3 (fun k => v.ownBlock = some k)) (hO : Own kER 87 w3 0 v' (es ++ [⟨a, b, .slice none 0 0, []⟩])) (hat : ∀ k, v'.ownBlock = some k → v.ownBlock = some k ∨ w.heap.size ≤ k) (wE : World) (hE : wE = w3.setCell ⟨gR, 0, none⟩ v') :
    (∃ P', RefP wE gR P' Z v' (es ++ [⟨a, b, .slice none 0 0, []⟩]) (ks ++ [(a, b)]) M ∧ ∀ k, P' k → P k ∨ w.heap.size ≤ k) ∧ Ch w wE P := by
  have hgR := p.plt _ p.pR
  have hc3 : Ch w3 wE (fun k => k = gR) := by rw [hE]; exact (Ch.refl w3 (fun k => k = gR)).setCell _ _ rfl
  have hcE : Ch w wE (fun k => v.ownBlock = some k ∨ k = gR) := (hc.mono (fun k hk => .inl hk)).trans (hc3.mono (fun k hk => .inr hk)) (fun _ _ h => h)
  have hOl := Own.lt hO
  have hsz : wE.heap.size = w3.heap.size := by rw [hE]; simp [World.setCell]
  have hZ : ∀ k, Z k → ¬ (v.ownBlock = some k ∨ k = gR) := fun k hk h => by
    rcases h with h | h
    · exact (p.pV k h).2.2 hk
    · exact (p.pZ k hk).2 h
  have hst : ∀ i, Z i → i < w.heap.size → wE.heap[i]? = w.heap[i]? := fun i hi hlt => hcE.block i hlt (hZ i hi)
  have hb3 : w3.heap[gR]? = some (.cells ([v] : List Value).toArray 44 (0, 0)) := hc.blk p.blk (fun h => (p.pV gR h).2.1 rfl)
  have hnR : ∀ k, v'.ownBlock = some k → k ≠ gR := fun k hk e => by
    rcases hat k hk with h | h
    · exact (p.pV k h).2.1 e
    · omega
  refine ⟨⟨fun i => P i ∨ (w.heap.size ≤ i ∧ i < wE.heap.size), ⟨?_, ?_, ?_, fun e he => ?_, fun e he i g1 g2 => ?_, .inl p.pR, fun i hi => ?_, fun i hi => ⟨.inl (p.pZ i hi).1, (p.pZ i hi).2⟩, fun i hi => ?_⟩, fun i hi => ?_⟩, hcE.mono (fun i hi => ?_)⟩
  · rw [hE]
    exact setCell_blk (j := 0) hb3 v'
  · exact hO.ch flat_ER hc3 (fun i hi e => hnR i hi e)
  · rw [List.map_append, p.keys]
    rfl
  · rcases List.mem_append.1 he with he | he
    · obtain ⟨q1, q2, q3⟩ := p.hd e he
      exact ⟨q1.ch flat_hd hcE (fun i hi hh => hZ i (q2 i hi) hh), q2, q3⟩
    · obtain rfl := List.mem_singleton.1 he
      refine ⟨Own.nil _ _ _ _, fun i hi => (by cases hi), ?_⟩
      show 0 = (M a b).length
      rw [hM]
      rfl
  · rcases List.mem_append.1 he with he | he
    · exact Kd.R_step (p.ch e he i g1 g2) hst
    · obtain rfl := List.mem_singleton.1 he
      exact absurd g1 (Nat.not_lt_zero _)
  · have h2 := hOl i hi
    rcases hat i hi with h | h
    · exact ⟨.inl (p.pV i h).1, hnR i hi, (p.pV i h).2.2⟩
    · refine ⟨.inr ⟨h, by rw [hsz]; exact h2⟩, hnR i hi, fun hz => ?_⟩
      have := p.plt i (p.pZ i hz).1
      omega
  · rcases hi with hi | hi
    · exact Nat.lt_of_lt_of_le (p.plt i hi) hcE.size
    · exact hi.2
  · rcases hi with hi | hi
    · exact .inl hi
    · exact .inr hi.1
  · rcases hi with hi | hi
    · exact (p.pV i hi).1
    · rw [hi]; exact p.pR
set_option maxHeartbeats 6400000 in
theorem refPut (p : RefP w gR P Z v es ks M) (ok : MOk ks M) (a b q : Int) (A : Option Addr) (c : Nat) (ps : List PairD) (hx : ∀ w', Ch w w' P → Kd.C kPair w' A ps.length ps) (hl : ps.length ≤ 1000) :
    Calls Try.prog 30 #[.pointer (some ⟨gR, 0, none⟩), .int .i64 a, .int .i64 b, .int .i64 q, .slice A ps.length c] w fun e w' => e = .returned (.int .i64 (putN M a b q)) ∧ (∃ P', RefS w' gR P' (putKA ks M a b q) (putMA M a b q ps) ∧ ∀ k, P' k → P k ∨ w.heap.size ≤ k) ∧ Ch w w' P := by
  have HNX := Aside0.mk (refNext p ok a b)
  obtain ⟨n, hn⟩ : ∃ n, n = (M a b).length := ⟨_, rfl⟩
  obtain ⟨np, hnp⟩ : ∃ n, n = ps.length := ⟨_, rfl⟩
  obtain ⟨PN, hPN⟩ : ∃ n, n = putN M a b q := ⟨_, rfl⟩
  obtain ⟨KA, hKA⟩ : ∃ n, n = putKA ks M a b q := ⟨_, rfl⟩
  obtain ⟨MA, hMA⟩ : ∃ n, n = putMA M a b q ps := ⟨_, rfl⟩
  have hn40 : n ≤ 40 := by rw [hn]; exact ok.len a b
  rw [← hn] at HNX
  rw [← hPN, ← hKA, ← hMA, ← hnp]
  have HP := Aside0.mk p
  have HOK := Aside0.mk ok
  have HN := Aside0.mk hn
  have HNP := Aside0.mk hnp
  have HX := Aside0.mk hx
  have HLP := Aside0.mk hl
  have HNO : Aside0 (¬ okPut M a b q → PN = n ∧ KA = ks ∧ MA = M) := ⟨fun h => by
    rw [hPN, hKA, hMA, hn]
    unfold putN putKA putMA
    rw [if_neg h, if_neg h, if_neg h]
    exact ⟨rfl, rfl, rfl⟩⟩
  have HYES : Aside0 (okPut M a b q → PN = n + 1 ∧ KA = putK ks M a b ∧ MA = putM M a b ps) := ⟨fun h => by
    rw [hPN, hKA, hMA, hn]
    unfold putN putKA putMA
    rw [if_pos h, if_pos h, if_pos h]
    exact ⟨rfl, rfl, rfl⟩⟩
  have HRNG : Aside0 ((a < 0 ∨ 5 < a ∨ b < 1 ∨ 3 < b) → ¬ okPut M a b q ∧ n = 0) := ⟨fun h => by
    refine ⟨fun ho => by have := ho.2; omega, ?_⟩
    rw [hn]
    by_cases h0 : M a b = []
    · rw [h0]; rfl
    · have := ok.rng (a, b) ((ok.mem a b).2 h0)
      dsimp only at this
      omega⟩
  have hur := Try.underlying87
  have hus := Try.underlying44
  clear p ok hn hnp hPN hKA hMA hx hl
  by_cases hr : a < 0 ∨ 5 < a ∨ b < 1 ∨ 3 < b
  · obtain ⟨hno, hn0⟩ := HRNG.out hr
    obtain ⟨e1, e2, e3⟩ := HNO.out hno
    have HE : Aside0 (PN = 0 ∧ KA = ks ∧ MA = M) := ⟨⟨by rw [e1, hn0]; rfl, e2, e3⟩⟩
    clear hno hn0 e1 e2 e3
    by_cases h1 : a < 0
    · go_enter Try.func30, Try.ntmps30
      go_wp2_with fail
      go_ret
      exact ⟨by rw [HE.out.1]; rfl, ⟨P, by rw [HE.out.2.1, HE.out.2.2]; exact ⟨Z, v, es, HP.out⟩, fun _ h => .inl h⟩, Ch.refl _ _⟩
    · by_cases h2 : 5 < a
      · go_enter Try.func30, Try.ntmps30
        go_wp2_with fail
        go_ret
        exact ⟨by rw [HE.out.1]; rfl, ⟨P, by rw [HE.out.2.1, HE.out.2.2]; exact ⟨Z, v, es, HP.out⟩, fun _ h => .inl h⟩, Ch.refl _ _⟩
      · by_cases h3 : b < 1
        · go_enter Try.func30, Try.ntmps30
          go_wp2_with fail
          go_ret
          exact ⟨by rw [HE.out.1]; rfl, ⟨P, by rw [HE.out.2.1, HE.out.2.2]; exact ⟨Z, v, es, HP.out⟩, fun _ h => .inl h⟩, Ch.refl _ _⟩
        · have h4 : 3 < b := by omega
          go_enter Try.func30, Try.ntmps30
          go_wp2_with fail
          go_ret
          exact ⟨by rw [HE.out.1]; rfl, ⟨P, by rw [HE.out.2.1, HE.out.2.2]; exact ⟨Z, v, es, HP.out⟩, fun _ h => .inl h⟩, Ch.refl _ _⟩
  have h1 : ¬ a < 0 := fun h => hr (.inl h)
  have h2 : ¬ 5 < a := fun h => hr (.inr (.inl h))
  have h3 : ¬ b < 1 := fun h => hr (.inr (.inr (.inl h)))
  have h4 : ¬ 3 < b := fun h => hr (.inr (.inr (.inr h)))
  clear hr
  by_cases hq : q = (n : Int)
  case' neg =>
    have hq' : (q != (n : Int)) = true := bne_iff_ne.2 hq
    have HE : Aside0 (PN = n ∧ KA = ks ∧ MA = M) := ⟨HNO.out (fun ho => hq (by rw [HN.out]; exact ho.1))⟩
    go_enter Try.func30, Try.ntmps30
    go_wp2_with fail
    refine HNX.out.mono ?_
    rintro e w1 ⟨rfl, rfl⟩
    go_wp2_with fail
    go_ret
    exact ⟨by rw [HE.out.1]; rfl, ⟨P, by rw [HE.out.2.1, HE.out.2.2]; exact ⟨Z, v, es, HP.out⟩, fun _ h => .inl h⟩, Ch.refl _ _⟩
  have hq' : (q != (n : Int)) = false := by rw [hq]; simp
  by_cases hq40 : 40 ≤ q
  · have hq4' := decide_eq_true hq40
    have HE : Aside0 (PN = n ∧ KA = ks ∧ MA = M) := ⟨HNO.out (fun ho => by have := ho.2; omega)⟩
    go_enter Try.func30, Try.ntmps30
    go_wp2_with fail
    refine HNX.out.mono ?_
    rintro e w1 ⟨rfl, rfl⟩
    go_wp2_with fail
    go_ret
    exact ⟨by rw [HE.out.1]; rfl, ⟨P, by rw [HE.out.2.1, HE.out.2.2]; exact ⟨Z, v, es, HP.out⟩, fun _ h => .inl h⟩, Ch.refl _ _⟩
  have hq4' := decide_eq_false hq40
  have HE : Aside0 (PN = n + 1 ∧ KA = putK ks M a b ∧ MA = putM M a b ps) := ⟨HYES.out ⟨by rw [hq, HN.out], by omega, by omega, by omega, by omega, by omega⟩⟩
  have HPN : Aside0 (PN = (n : Int) + 1) := ⟨HE.out.1⟩
  go_enter Try.func30, Try.ntmps30
  go_wp2_with fail
  refine HNX.out.mono ?_
  rintro e w1 ⟨rfl, rfl⟩
  by_cases hn0 : n = 0
  · have HM0 : Aside0 (M a b = []) := ⟨List.eq_nil_of_length_eq_zero (by rw [← HN.out]; exact hn0)⟩
    have HNK : Aside0 ((a, b) ∉ ks) := ⟨fun hm => (HOK.out.mem a b).1 hm HM0.out⟩
    have hn0' : ((n : Int) == 0) = true := by rw [hn0]; rfl
    obtain ⟨A0, c0, hv, _, hC0⟩ := HP.out.form
    have hcv := HP.out.c_v
    have hro := HP.out.row
    rw [hv] at hcv hro
    obtain ⟨m0, hm0⟩ : ∃ m, m = es.length := ⟨_, rfl⟩
    rw [← hm0] at hcv hro
    have hm0l : m0 ≤ 1000 := by
      have h5 := HOK.out.most
      rw [hm0, HP.out.len]
      omega
    have hb5 := (Below.refl w1.heap.size w1).alloc (Nat.le_refl _) (.cells #[.int .i64 a, .int .i64 b, .slice none 0 0] 87)
    have HO5 := Aside0.mk (hro.below hb5)
    have HB5 := Aside0.mk hb5
    have HV := Aside0.mk (And.intro hv hm0)
    have HL5 : Aside0 (Kd.C kER (w1.alloc (.cells #[.int .i64 a, .int .i64 b, .slice none 0 0] 87)) (some ⟨w1.heap.size, 0, none⟩) 1 [⟨a, b, .slice none 0 0, []⟩]) := ⟨er_C _ ⟨a, b, .slice none 0 0, []⟩ rfl (g := w1.heap.size) (alloc_at w1 _)⟩
    have hfz : w1.frozen? ⟨gR, 0, none⟩ = false := frozen_of_blk HP.out.blk
    clear hn0 hv hC0 hro hm0 hb5
    go_wp2_with (at_builtin; refine wpList_app_own flat_ER 0 rfl _ _ 42 87 _ 40 rfl Try.underlying42 info_ER rfl (by decide) (by decide) (.slice A0 m0 c0) es [⟨a, b, .slice none 0 0, []⟩] (some ⟨w1.heap.size, 0, none⟩) 1 1 rfl rfl HO5.out rfl HL5.out (Nat.zero_le _) (by rw [← HV.out.2]; show (m0 + 1) * 40 ≤ 140737488355328; omega) ?_; intro v4 w4 hv4 hg4 hat4; obtain ⟨A4, c4, rfl, _, _⟩ := hv4.reads; rw [show (es ++ [(⟨a, b, .slice none 0 0, []⟩ : ER)]).length = m0 + 1 from (by rw [List.length_append, ← HV.out.2]; rfl)] at hv4 hat4 ⊢; have HC4 := Aside0.mk ((Ch.of_below HB5.out (fun k => (Value.slice A0 m0 c0).ownBlock = some k)).trans (Ch.of_grown (S := fun k => (Value.slice A0 m0 c0).ownBlock = some k) hg4 (fun k hk => hk)) (fun _ _ h => h)); have HB4 := Aside0.mk (HC4.out.blk HP.out.blk (fun hk => (HP.out.pV gR (by rw [HV.out.1, ← HV.out.2]; exact hk)).2.1 rfl)); have HV4 := Aside0.mk hv4; have HT4 := Aside0.mk hat4; have hcv4 : w4.cell? ⟨gR, 0, none⟩ = some v := cell_of_blk HB4.out; have hfz4 : w4.frozen? ⟨gR, 0, none⟩ = false := frozen_of_blk HB4.out; clear hv4 hg4 hat4)
    obtain ⟨wS, hwS⟩ : ∃ x, x = w4.setCell ⟨gR, 0, none⟩ (.slice A4 (m0 + 1) c4) := ⟨_, rfl⟩
    rw [← hwS]
    have HT : Aside0 (∃ P2 Z2 v2 es2 ks2, RefP wS gR P2 Z2 v2 es2 ks2 M ∧ ks2.Nodup ∧ (a, b) ∈ ks2 ∧ KA = ks2 ∧ (∀ i, P2 i → P i ∨ w1.heap.size ≤ i) ∧ Ch w1 wS P) := ⟨by
      have hvv : v = .slice A0 m0 c0 := by rw [HV.out.1, ← HV.out.2]
      obtain ⟨⟨P2, h5, h6⟩, h7⟩ := HP.out.addRow a b HM0.out (.slice A4 (m0 + 1) c4) w4 (by rw [hvv]; exact HC4.out) HV4.out (fun i hi => by
        rcases HT4.out i hi with h | h
        · exact .inl (by rw [hvv]; exact h)
        · exact .inr (Nat.le_trans HB5.out.size h)) wS hwS
      refine ⟨P2, Z, .slice A4 (m0 + 1) c4, _, _, h5, ?_, List.mem_append_right _ (List.mem_singleton.2 rfl), ?_, h6, h7⟩
      · rw [List.nodup_append]
        exact ⟨HOK.out.nd, (by simp), fun x hx y hy => by rw [List.mem_singleton.1 hy]; exact fun e => HNK.out (e ▸ hx)⟩
      · rw [HE.out.2.1]
        unfold putK
        rw [if_pos HM0.out]⟩
    clear hwS hcv4 hfz4 hfz hcv
    obtain ⟨P2, Z2, v2, es2, ks2, p2, nd2, hm2, hka, hP2, hc2⟩ := HT.out
    have HP2 := Aside0.mk p2
    have HND := Aside0.mk nd2
    have HM2 := Aside0.mk hm2
    have HKA := Aside0.mk hka
    have HPC := Aside0.mk (And.intro hP2 hc2)
    have HAT := Aside0.mk (refAt p2 a b)
    clear p2 nd2 hm2 hka hP2 hc2 HT
    go_wp2_with fail
    with_reducible refine HAT.out.mono ?_
    rintro e wB ⟨i, rfl, HI, rfl⟩
    have hex : ∃ k : Nat, i = k ∧ ∃ h : k < ks2.length, ks2[k] = (a, b) := by
      rcases HI.out with ⟨_, hno⟩ | h
      · exact absurd HM2.out hno
      · exact h
    obtain ⟨k, rfl, hkk, hkey⟩ := hex
    have p := HP2.out
    have hke : k < es2.length := by rw [p.len]; exact hkk
    obtain ⟨Av, cm, hv, -, hC⟩ := p.form
    have hmx := Kd.C_max hC
    subst hv
    obtain ⟨g, rfl, -, -, f2, hfr⟩ := own_ER p.row k hke
    obtain ⟨ho, -, hlh⟩ := p.hd es2[k] (List.getElem_mem hke)
    have hk2 := p.key k hke hkk
    rw [hkey] at hk2
    obtain ⟨e1, e2⟩ := Prod.mk.inj hk2
    rw [← e1, ← e2, ← HN.out] at hlh
    obtain ⟨A2, c2, hv2, -, hC2⟩ := ho.reads
    obtain ⟨hs, hhs⟩ : ∃ hs, hs = es2[k].hs := ⟨_, rfl⟩
    rw [← hhs] at hv2 hC2 hlh
    rw [hv2] at f2
    obtain ⟨n2, hn2⟩ : ∃ n2, n2 = hs.length := ⟨_, rfl⟩
    rw [← hn2] at f2
    have hn2n : n2 = n := by rw [hn2, hlh]
    subst hn2n
    obtain ⟨mm, hmm⟩ : ∃ mm, mm = es2.length := ⟨_, rfl⟩
    have hkI : (k : Int) < mm := by omega
    have hk0 : (0 : Int) ≤ (k : Int) := by omega
    have hmm9 : mm ≤ 9223372036854775807 := by omega
    have h3 := add3 g k
    have HK0 : Aside0 (∀ w', Below wB.heap.size wB w' → w'.cell? ⟨gR, 0, none⟩ = some (.slice (some ⟨g, 0, none⟩) mm cm) ∧ w'.cell? ⟨g, k * 3 + 2, none⟩ = some (.slice A2 n2 c2)) := ⟨fun w' hw => by
      have c1 := (HP2.out.below hw).c_v
      rw [← hmm] at c1
      exact ⟨c1, (hw.cell (World.block_lt_of_cell? _ _ f2)).trans f2⟩⟩
    have HFZ : Aside0 (∀ w', Below wB.heap.size wB w' → w'.frozen? ⟨g, k * 3 + 2, none⟩ = false) := ⟨fun w' hw => by
      obtain ⟨g', hg', _, _, _, hfr'⟩ := own_ER (HP2.out.below hw).row k hke
      injection hg' with hg'
      injection hg' with hg'
      subst hg'
      exact hfr' 2⟩
    have HA13 : Aside0 (∀ w', Below wB.heap.size wB w' → ∀ ty, Runs Try.prog (Builtin.append_ #[22, 22] ty #[.slice none 0 0, .slice A2 n2 c2]) w' fun v w'' => ∃ A9 c9, v = .slice A9 n2 c9 ∧ Below wB.heap.size wB w'' ∧ Below w'.heap.size w' w'' ∧ Aside0 (Own kHd 45 w'' wB.heap.size (.slice A9 n2 c9) hs)) := ⟨fun w' hw ty => by
      refine (append_own_runs Try.prog flat_hd 22 ty _ 24 Try.underlying22 info_hd18 rfl (by decide) (Own.nil kHd 45 w' wB.heap.size) A2 n2 c2 hn2 (Kd.C_below hC2 hw) hw.size (by rw [List.length_nil]; omega) (by rw [List.length_nil]; omega)).mono ?_
      rintro v w'' ⟨hO, hg⟩
      rw [List.nil_append] at hO
      have hb : Below w'.heap.size w' w'' := (Below.refl w'.heap.size w').grown hg (Nat.le_refl _) (fun i hi => by cases hi)
      obtain ⟨A9, c9, rfl, _, _⟩ := hO.reads
      rw [← hn2] at hO ⊢
      exact ⟨A9, c9, rfl, below_then hw hw.size hb, hb, ⟨hO⟩⟩⟩
    have HA15 : Aside0 (∀ w', Below wB.heap.size wB w' → ∀ ty, Runs Try.prog (Builtin.append_ #[45, 45] ty #[.slice none 0 0, .slice A np c]) w' fun v w'' => ∃ A8 c8, v = .slice A8 np c8 ∧ Below wB.heap.size wB w'' ∧ Below w'.heap.size w' w'' ∧ Aside0 (Own kPair 80 w'' wB.heap.size (.slice A8 np c8) ps)) := ⟨fun w' hw ty => by
      have hCp := HX.out w' (HPC.out.2.trans (Ch.of_below (S := P) hw) (fun _ _ h => h))
      have hlp := HLP.out
      refine (append_own_runs Try.prog flat_pair 45 ty _ 32 Try.underlying45 info_pair rfl (by decide) (Own.nil kPair 80 w' wB.heap.size) A np c HNP.out hCp hw.size (by rw [List.length_nil]; omega) (by rw [List.length_nil]; omega)).mono ?_
      rintro v w'' ⟨hO, hg⟩
      rw [List.nil_append] at hO
      have hb : Below w'.heap.size w' w'' := (Below.refl w'.heap.size w').grown hg (Nat.le_refl _) (fun i hi => by cases hi)
      obtain ⟨A8, c8, rfl, _, _⟩ := hO.reads
      rw [← HNP.out] at hO ⊢
      exact ⟨A8, c8, rfl, below_then hw hw.size hb, hb, ⟨hO⟩⟩⟩
    have HA17 : Aside0 (∀ w' A9 c9 A8 c8 gN, Below wB.heap.size wB w' → Own kHd 45 w' wB.heap.size (.slice A9 n2 c9) hs → Own kPair 80 w' wB.heap.size (.slice A8 np c8) ps → w'.heap[gN]? = some (.cells #[.slice A8 np c8] 45 (0, 0)) → ∀ ty, Runs Try.prog (Builtin.append_ #[22, 22] ty #[.slice A9 n2 c9, .slice (some ⟨gN, 0, none⟩) 1 1]) w' fun v w'' => ∃ A7 c7, v = .slice A7 (n2 + 1) c7 ∧ Below wB.heap.size wB w'' ∧ Aside0 (Own kHd 45 w'' wB.heap.size (.slice A7 (n2 + 1) c7) (hs ++ [⟨A8, np, c8⟩]) ∧ Own kPair 80 w'' wB.heap.size (.slice A8 np c8) ps)) := ⟨fun w' A9 c9 A8 c8 gN hw hO9 hO8 hgN ty => by
      refine (append_own_runs Try.prog flat_hd 22 ty _ 24 Try.underlying22 info_hd18 rfl (by decide) hO9 (some ⟨gN, 0, none⟩) 1 1 rfl (hd_C w' ⟨A8, np, c8⟩ hgN) hw.size (by rw [← hn2]; show (n2 + 1) * 24 ≤ 140737488355328; omega) (by rw [← hn2]; show n2 + 1 ≤ 9223372036854775807; omega)).mono ?_
      rintro v w'' ⟨hO, hg⟩
      have hb : Below wB.heap.size wB w'' := hw.grown hg hw.size (fun i hi => Own.base_ hO9 i hi)
      have hO8' : Own kPair 80 w'' wB.heap.size (.slice A8 np c8) ps := hO8.other flat_pair hg (fun i hi e => by
        obtain ⟨cs1, k1⟩ := own_blkS hO8 hi
        obtain ⟨cs2, k2⟩ := own_blkS hO9 e
        rw [k1] at k2
        injection k2 with k2
        injection k2 with _ k2
        exact absurd k2 (by decide))
      obtain ⟨A7, c7, rfl, _, _⟩ := hO.reads
      rw [show (hs ++ [(⟨A8, np, c8⟩ : Hd)]).length = n2 + 1 from by rw [List.length_append, ← hn2]; rfl] at hO ⊢
      exact ⟨A7, c7, rfl, hb, ⟨hO, hO8'⟩⟩⟩
    have HEND : Aside0 (∀ w17 A7 c7 A8 c8, Below wB.heap.size wB w17 → Own kHd 45 w17 wB.heap.size (.slice A7 (n2 + 1) c7) (hs ++ [⟨A8, np, c8⟩]) → Own kPair 80 w17 wB.heap.size (.slice A8 np c8) ps → ∀ wE, wE = w17.setCell ⟨g, k * 3 + 2, none⟩ (.slice A7 (n2 + 1) c7) → (∃ P', RefS wE gR P' KA MA ∧ ∀ k, P' k → P k ∨ w1.heap.size ≤ k) ∧ Ch w1 wE P) := ⟨fun w17 A7 c7 A8 c8 hw hO7 hO8 wE hE => by
      rw [hhs] at hO7
      obtain ⟨⟨P', hR, hP'⟩, hcE⟩ := HP2.out.chunk HND.out a b k hke hkk hkey (.slice A7 (n2 + 1) c7) ⟨A8, np, c8⟩ ps HNP.out w17 hw hO7 hO8 wE hE
      rw [HKA.out, HE.out.2.2]
      refine ⟨⟨P', hR, fun i hi => ?_⟩, HPC.out.2.trans hcE (fun i hlt hi => (HPC.out.1 i hi).resolve_right (by omega))⟩
      rcases hP' i hi with h | h
      · exact HPC.out.1 i h
      · exact .inr (Nat.le_trans HPC.out.2.size h)⟩
    have hBd : Below wB.heap.size wB wB.drew := below_drewS wB
    have hcv2 := (HK0.out wB (Below.refl _ _)).1
    clear p hC hfr ho hlh hk2 e1 e2 hv2 hC2 hhs hn2 hkey f2 hke hkk hmm
    go_upto_region 9 with (fail)
    refine Rest.begin (S := fun l w' => l.getD 20 true = false → (w'.cell? ⟨gR, 0, none⟩ = some (.slice (some ⟨g, 0, none⟩) mm cm) ∧ w'.cell? ⟨g, k * 3 + 2, none⟩ = some (.slice A2 n2 c2))) (by kernel_rfl) ?_
    have hSend : ∀ (l : Array Bool) (w' : World), l.getD 20 true = true → (l.getD 20 true = false → (w'.cell? ⟨gR, 0, none⟩ = some (.slice (some ⟨g, 0, none⟩) mm cm) ∧ w'.cell? ⟨g, k * 3 + 2, none⟩ = some (.slice A2 n2 c2))) := fun l w' h1 h => by rw [h1] at h; cases h
    have hs := HK0.out wB.drew hBd
    refine Rest.take (i := 0) (v := ?_) rfl (by kernel_rfl) (by kernel_rfl) (by kernel_rfl) (fun _ _ _ h => h) (fun l w => by rw [getD_set_ne true (by decide)]) (fun _ => hs) (Or.inl ⟨by kernel_rfl, ?_⟩) ?_
    rotate_left 1
    · (intro w _; go_simp; try with_reducible rfl)
    simp only [List.getElem_toArray, List.getElem_cons_succ, List.getElem_cons_zero, Act.put, List.setIfInBounds_toArray, List.set_cons_zero, List.set_cons_succ]
    refine Rest.take (i := 1) (v := ?_) rfl (by kernel_rfl) (by kernel_rfl) (by kernel_rfl) (fun _ _ _ h => h) (fun l w => by rw [getD_set_ne true (by decide)]) (fun _ => hs) (Or.inl ⟨by kernel_rfl, ?_⟩) ?_
    rotate_left 1
    · (intro w _; go_simp; try with_reducible rfl)
    simp only [List.getElem_toArray, List.getElem_cons_succ, List.getElem_cons_zero, Act.put, List.setIfInBounds_toArray, List.set_cons_zero, List.set_cons_succ]
    refine Rest.take (i := 2) (v := ?_) rfl (by kernel_rfl) (by kernel_rfl) (by kernel_rfl) (fun _ _ _ h => h) (fun l w => by rw [getD_set_ne true (by decide)]) (fun _ => hs) (Or.inl ⟨by kernel_rfl, ?_⟩) ?_
    rotate_left 1
    · (intro w _; go_simp; try with_reducible rfl)
    simp only [List.getElem_toArray, List.getElem_cons_succ, List.getElem_cons_zero, Act.put, List.setIfInBounds_toArray, List.set_cons_zero, List.set_cons_succ]
    refine Rest.heldTo (z := 20) (i := 3) (v := ?_) [18, 19, 20] rfl (by kernel_rfl) (by kernel_rfl) (by kernel_rfl) (by decide) (fun _ _ _ h => h) (by decide) (by kernel_rfl) (by kernel_rfl) hs (Or.inl ⟨by kernel_rfl, ?_⟩) ?_
    rotate_left 1
    · (intro w hSw; (try dsimp only at hSw); go_simp; try with_reducible rfl)
    simp only [List.getElem_toArray, List.getElem_cons_succ, List.getElem_cons_zero, Act.put, List.setIfInBounds_toArray, List.set_cons_zero, List.set_cons_succ]
    refine Rest.take (i := 4) (v := ?_) rfl (by kernel_rfl) (by kernel_rfl) (by kernel_rfl) (fun _ _ _ h => h) (fun l w => by rw [getD_set_ne true (by decide)]) (fun _ => hs) (Or.inl ⟨by kernel_rfl, ?_⟩) ?_
    rotate_left 1
    · (intro w _; go_simp; try with_reducible rfl)
    simp only [List.getElem_toArray, List.getElem_cons_succ, List.getElem_cons_zero, Act.put, List.setIfInBounds_toArray, List.set_cons_zero, List.set_cons_succ]
    refine Rest.take (i := 5) (v := ?_) rfl (by kernel_rfl) (by kernel_rfl) (by kernel_rfl) (fun _ _ _ h => h) (fun l w => by rw [getD_set_ne true (by decide)]) (fun _ => hs) (Or.inl ⟨by kernel_rfl, ?_⟩) ?_
    rotate_left 1
    · (intro w _; go_simp; try with_reducible rfl)
    simp only [List.getElem_toArray, List.getElem_cons_succ, List.getElem_cons_zero, Act.put, List.setIfInBounds_toArray, List.set_cons_zero, List.set_cons_succ]
    refine Rest.take (i := 6) (v := ?_) rfl (by kernel_rfl) (by kernel_rfl) (by kernel_rfl) (fun _ _ _ h => h) (fun l w => by rw [getD_set_ne true (by decide)]) (fun _ => hs) (Or.inl ⟨by kernel_rfl, ?_⟩) ?_
    rotate_left 1
    · (intro w _; go_simp; try with_reducible rfl)
    simp only [List.getElem_toArray, List.getElem_cons_succ, List.getElem_cons_zero, Act.put, List.setIfInBounds_toArray, List.set_cons_zero, List.set_cons_succ]
    refine Rest.take (i := 7) (v := ?_) rfl (by kernel_rfl) (by kernel_rfl) (by kernel_rfl) (fun _ _ _ h => h) (fun l w => by rw [getD_set_ne true (by decide)]) (fun _ => hs) (Or.inl ⟨by kernel_rfl, ?_⟩) ?_
    rotate_left 1
    · (intro w _; go_simp; try with_reducible rfl)
    simp only [List.getElem_toArray, List.getElem_cons_succ, List.getElem_cons_zero, Act.put, List.setIfInBounds_toArray, List.set_cons_zero, List.set_cons_succ]
    refine Rest.heldTo (z := 20) (i := 8) (v := ?_) [10, 11, 12, 13, 17, 20] rfl (by kernel_rfl) (by kernel_rfl) (by kernel_rfl) (by decide) (fun _ _ _ h => h) (by decide) (by kernel_rfl) (by kernel_rfl) hs (Or.inl ⟨by kernel_rfl, ?_⟩) ?_
    rotate_left 1
    · (intro w hSw; (try dsimp only at hSw); go_simp; try with_reducible rfl)
    simp only [List.getElem_toArray, List.getElem_cons_succ, List.getElem_cons_zero, Act.put, List.setIfInBounds_toArray, List.set_cons_zero, List.set_cons_succ]
    refine Rest.take (i := 9) (v := ?_) rfl (by kernel_rfl) (by kernel_rfl) (by kernel_rfl) (fun _ _ _ h => h) (fun l w => by rw [getD_set_ne true (by decide)]) (fun _ => hs) (Or.inl ⟨by kernel_rfl, ?_⟩) ?_
    rotate_left 1
    · (intro w _; go_simp; try with_reducible rfl)
    simp only [List.getElem_toArray, List.getElem_cons_succ, List.getElem_cons_zero, Act.put, List.setIfInBounds_toArray, List.set_cons_zero, List.set_cons_succ]
    refine Rest.take (i := 10) (v := ?_) rfl (by kernel_rfl) (by kernel_rfl) (by kernel_rfl) (fun _ _ _ h => h) (fun l w => by rw [getD_set_ne true (by decide)]) (fun _ => hs) (Or.inl ⟨by kernel_rfl, ?_⟩) ?_
    rotate_left 1
    · (intro w _; go_simp; try with_reducible rfl)
    simp only [List.getElem_toArray, List.getElem_cons_succ, List.getElem_cons_zero, Act.put, List.setIfInBounds_toArray, List.set_cons_zero, List.set_cons_succ]
    refine Rest.take (i := 11) (v := ?_) rfl (by kernel_rfl) (by kernel_rfl) (by kernel_rfl) (fun _ _ _ h => h) (fun l w => by rw [getD_set_ne true (by decide)]) (fun _ => hs) (Or.inl ⟨by kernel_rfl, ?_⟩) ?_
    rotate_left 1
    · (intro w _; go_simp; try with_reducible rfl)
    simp only [List.getElem_toArray, List.getElem_cons_succ, List.getElem_cons_zero, Act.put, List.setIfInBounds_toArray, List.set_cons_zero, List.set_cons_succ]
    refine Rest.heldTo (z := 20) (i := 12) (v := ?_) [13, 17, 20] rfl (by kernel_rfl) (by kernel_rfl) (by kernel_rfl) (by decide) (fun _ _ _ h => h) (by decide) (by kernel_rfl) (by kernel_rfl) hs (Or.inl ⟨by kernel_rfl, ?_⟩) ?_
    rotate_left 1
    · (intro w hSw; (try dsimp only at hSw); go_simp; try with_reducible rfl)
    simp only [List.getElem_toArray, List.getElem_cons_succ, List.getElem_cons_zero, Act.put, List.setIfInBounds_toArray, List.set_cons_zero, List.set_cons_succ]
    refine Rest.take (i := 14) (v := ?_) rfl (by kernel_rfl) (by kernel_rfl) (by kernel_rfl) (fun _ _ _ h => h) (fun l w => by rw [getD_set_ne true (by decide)]) (fun _ => hs) (Or.inl ⟨by kernel_rfl, ?_⟩) ?_
    rotate_left 1
    · (intro w _; go_simp; try with_reducible rfl)
    simp only [List.getElem_toArray, List.getElem_cons_succ, List.getElem_cons_zero, Act.put, List.setIfInBounds_toArray, List.set_cons_zero, List.set_cons_succ]
    clear hs
    refine Rest.one (i := 13) (by kernel_rfl) rfl ?_
    intro K hK
    refine step_app_runR (by kernel_rfl) (.const (.slice none 0 0)) (.tmp 69) 22 rfl (.slice none 0 0) (.slice A2 n2 c2) (by simp [Act.eval, Act.put]) (by simp [Act.eval, Act.put]) (HA13.out wB.drew hBd) ?_
    rintro _ w13 ⟨A9, c9, rfl, hB13, hS13, hO13⟩
    refine hK.out _ _ (fun _ => HK0.out w13 hB13) ?_
    clear hK K
    refine Rest.one (i := 15) (by kernel_rfl) rfl ?_
    intro K hK
    refine step_app_runR (by kernel_rfl) (.const (.slice none 0 0)) (.tmp 71) 45 rfl (.slice none 0 0) (.slice A np c) (by simp [Act.eval, Act.put]) (by simp [Act.eval, Act.put]) (HA15.out w13 hB13) ?_
    rintro _ w15 ⟨A8, c8, rfl, hB15, hS15, hO15⟩
    refine hK.out _ _ (fun _ => HK0.out w15 hB15) ?_
    clear hK K
    refine Rest.one (i := 16) (by kernel_rfl) rfl ?_
    intro K hK
    rw [if_pos (by kernel_rfl)]
    go_simp
    have hB16 := below_then hB15 (hB15).size ((Below.refl w15.heap.size w15).alloc (Nat.le_refl _) (.cells #[.slice A8 np c8] 45))
    refine hK.out _ _ (fun _ => HK0.out _ hB16) ?_
    clear hK K
    refine Rest.one (i := 17) (by kernel_rfl) rfl ?_
    intro K hK
    refine step_app_runR (by kernel_rfl) (.tmp 70) (.tmp 73) 22 rfl (.slice A9 n2 c9) (.slice (some ⟨w15.heap.size, 0, none⟩) 1 1) (by simp [Act.eval, Act.put]) (by simp [Act.eval, Act.put]) (HA17.out _ A9 c9 A8 c8 w15.heap.size hB16 (Own.below (Own.below hO13.out hS15) ((Below.refl w15.heap.size w15).alloc (Nat.le_refl _) _)) (Own.below hO15.out ((Below.refl w15.heap.size w15).alloc (Nat.le_refl _) _)) (alloc_at w15 _)) ?_
    rintro _ w17 ⟨A7, c7, rfl, hB17, hO17⟩
    refine hK.out _ _ (fun _ => HK0.out w17 hB17) ?_
    clear hK K
    obtain ⟨_, q2⟩ := HK0.out w17 hB17
    have z17 := HFZ.out w17 hB17
    have hs := HK0.out w17 hB17
    refine Rest.take (i := 18) (v := ?_) rfl (by kernel_rfl) (by kernel_rfl) (by kernel_rfl) (fun _ _ _ h => h) (fun l w => by rw [getD_set_ne true (by decide)]) (fun _ => hs) (Or.inl ⟨by kernel_rfl, ?_⟩) ?_
    rotate_left 1
    · (intro w _; go_simp; try with_reducible rfl)
    simp only [List.getElem_toArray, List.getElem_cons_succ, List.getElem_cons_zero, Act.put, List.setIfInBounds_toArray, List.set_cons_zero, List.set_cons_succ]
    refine Rest.take (i := 19) (v := ?_) rfl (by kernel_rfl) (by kernel_rfl) (by kernel_rfl) (fun _ _ _ h => h) (fun l w => by rw [getD_set_ne true (by decide)]) (fun _ => hs) (Or.inl ⟨by kernel_rfl, ?_⟩) ?_
    rotate_left 1
    · (intro w _; go_simp; try with_reducible rfl)
    simp only [List.getElem_toArray, List.getElem_cons_succ, List.getElem_cons_zero, Act.put, List.setIfInBounds_toArray, List.set_cons_zero, List.set_cons_succ]
    clear hs
    refine Rest.one (i := 20) (by kernel_rfl) rfl ?_
    intro K hK
    rw [if_pos (by kernel_rfl)]
    go_simp
    refine hK.out _ _ (hSend _ _ (by kernel_rfl)) ?_
    clear hK K
    refine Rest.done (by kernel_rfl) ?_ _
    have HEN := Aside0.mk (HEND.out w17 A7 c7 A8 c8 hB17 hO17.out.1 hO17.out.2 _ rfl)
    clear q2 z17 hO17
    go_wp2_with fail
    go_ret
    exact ⟨by rw [HPN.out]; rfl, HEN.out⟩
  · have hn0' : ((n : Int) == 0) = false := beq_eq_false_iff_ne.2 (by omega)
    have hMn : M a b ≠ [] := fun h => hn0 (by rw [HN.out, h]; rfl)
    obtain ⟨wS, hwS⟩ : ∃ x, x = w1 := ⟨_, rfl⟩
    have HPS : Aside0 (RefP wS gR P Z v es ks M) := ⟨by rw [hwS]; exact HP.out⟩
    have HCS : Aside0 (Ch w1 wS P) := ⟨by rw [hwS]; exact Ch.refl _ _⟩
    go_upto_region 8 with (fail)
    rw [← hwS]
    have HT : Aside0 (∃ P2 Z2 v2 es2 ks2, RefP wS gR P2 Z2 v2 es2 ks2 M ∧ ks2.Nodup ∧ (a, b) ∈ ks2 ∧ KA = ks2 ∧ (∀ i, P2 i → P i ∨ w1.heap.size ≤ i) ∧ Ch w1 wS P) := ⟨P, Z, v, es, ks, HPS.out, HOK.out.nd, (HOK.out.mem a b).2 hMn, (by rw [HE.out.2.1]; unfold putK; rw [if_neg hMn]), fun _ h => .inl h, HCS.out⟩
    clear hn0 hMn hwS
    obtain ⟨P2, Z2, v2, es2, ks2, p2, nd2, hm2, hka, hP2, hc2⟩ := HT.out
    have HP2 := Aside0.mk p2
    have HND := Aside0.mk nd2
    have HM2 := Aside0.mk hm2
    have HKA := Aside0.mk hka
    have HPC := Aside0.mk (And.intro hP2 hc2)
    have HAT := Aside0.mk (refAt p2 a b)
    clear p2 nd2 hm2 hka hP2 hc2 HT
    go_wp2_with fail
    with_reducible refine HAT.out.mono ?_
    rintro e wB ⟨i, rfl, HI, rfl⟩
    have hex : ∃ k : Nat, i = k ∧ ∃ h : k < ks2.length, ks2[k] = (a, b) := by
      rcases HI.out with ⟨_, hno⟩ | h
      · exact absurd HM2.out hno
      · exact h
    obtain ⟨k, rfl, hkk, hkey⟩ := hex
    have p := HP2.out
    have hke : k < es2.length := by rw [p.len]; exact hkk
    obtain ⟨Av, cm, hv, -, hC⟩ := p.form
    have hmx := Kd.C_max hC
    subst hv
    obtain ⟨g, rfl, -, -, f2, hfr⟩ := own_ER p.row k hke
    obtain ⟨ho, -, hlh⟩ := p.hd es2[k] (List.getElem_mem hke)
    have hk2 := p.key k hke hkk
    rw [hkey] at hk2
    obtain ⟨e1, e2⟩ := Prod.mk.inj hk2
    rw [← e1, ← e2, ← HN.out] at hlh
    obtain ⟨A2, c2, hv2, -, hC2⟩ := ho.reads
    obtain ⟨hs, hhs⟩ : ∃ hs, hs = es2[k].hs := ⟨_, rfl⟩
    rw [← hhs] at hv2 hC2 hlh
    rw [hv2] at f2
    obtain ⟨n2, hn2⟩ : ∃ n2, n2 = hs.length := ⟨_, rfl⟩
    rw [← hn2] at f2
    have hn2n : n2 = n := by rw [hn2, hlh]
    subst hn2n
    obtain ⟨mm, hmm⟩ : ∃ mm, mm = es2.length := ⟨_, rfl⟩
    have hkI : (k : Int) < mm := by omega
    have hk0 : (0 : Int) ≤ (k : Int) := by omega
    have hmm9 : mm ≤ 9223372036854775807 := by omega
    have h3 := add3 g k
    have HK0 : Aside0 (∀ w', Below wB.heap.size wB w' → w'.cell? ⟨gR, 0, none⟩ = some (.slice (some ⟨g, 0, none⟩) mm cm) ∧ w'.cell? ⟨g, k * 3 + 2, none⟩ = some (.slice A2 n2 c2)) := ⟨fun w' hw => by
      have c1 := (HP2.out.below hw).c_v
      rw [← hmm] at c1
      exact ⟨c1, (hw.cell (World.block_lt_of_cell? _ _ f2)).trans f2⟩⟩
    have HFZ : Aside0 (∀ w', Below wB.heap.size wB w' → w'.frozen? ⟨g, k * 3 + 2, none⟩ = false) := ⟨fun w' hw => by
      obtain ⟨g', hg', _, _, _, hfr'⟩ := own_ER (HP2.out.below hw).row k hke
      injection hg' with hg'
      injection hg' with hg'
      subst hg'
      exact hfr' 2⟩
    have HA13 : Aside0 (∀ w', Below wB.heap.size wB w' → ∀ ty, Runs Try.prog (Builtin.append_ #[22, 22] ty #[.slice none 0 0, .slice A2 n2 c2]) w' fun v w'' => ∃ A9 c9, v = .slice A9 n2 c9 ∧ Below wB.heap.size wB w'' ∧ Below w'.heap.size w' w'' ∧ Aside0 (Own kHd 45 w'' wB.heap.size (.slice A9 n2 c9) hs)) := ⟨fun w' hw ty => by
      refine (append_own_runs Try.prog flat_hd 22 ty _ 24 Try.underlying22 info_hd18 rfl (by decide) (Own.nil kHd 45 w' wB.heap.size) A2 n2 c2 hn2 (Kd.C_below hC2 hw) hw.size (by rw [List.length_nil]; omega) (by rw [List.length_nil]; omega)).mono ?_
      rintro v w'' ⟨hO, hg⟩
      rw [List.nil_append] at hO
      have hb : Below w'.heap.size w' w'' := (Below.refl w'.heap.size w').grown hg (Nat.le_refl _) (fun i hi => by cases hi)
      obtain ⟨A9, c9, rfl, _, _⟩ := hO.reads
      rw [← hn2] at hO ⊢
      exact ⟨A9, c9, rfl, below_then hw hw.size hb, hb, ⟨hO⟩⟩⟩
    have HA15 : Aside0 (∀ w', Below wB.heap.size wB w' → ∀ ty, Runs Try.prog (Builtin.append_ #[45, 45] ty #[.slice none 0 0, .slice A np c]) w' fun v w'' => ∃ A8 c8, v = .slice A8 np c8 ∧ Below wB.heap.size wB w'' ∧ Below w'.heap.size w' w'' ∧ Aside0 (Own kPair 80 w'' wB.heap.size (.slice A8 np c8) ps)) := ⟨fun w' hw ty => by
      have hCp := HX.out w' (HPC.out.2.trans (Ch.of_below (S := P) hw) (fun _ _ h => h))
      have hlp := HLP.out
      refine (append_own_runs Try.prog flat_pair 45 ty _ 32 Try.underlying45 info_pair rfl (by decide) (Own.nil kPair 80 w' wB.heap.size) A np c HNP.out hCp hw.size (by rw [List.length_nil]; omega) (by rw [List.length_nil]; omega)).mono ?_
      rintro v w'' ⟨hO, hg⟩
      rw [List.nil_append] at hO
      have hb : Below w'.heap.size w' w'' := (Below.refl w'.heap.size w').grown hg (Nat.le_refl _) (fun i hi => by cases hi)
      obtain ⟨A8, c8, rfl, _, _⟩ := hO.reads
      rw [← HNP.out] at hO ⊢
      exact ⟨A8, c8, rfl, below_then hw hw.size hb, hb, ⟨hO⟩⟩⟩
    have HA17 : Aside0 (∀ w' A9 c9 A8 c8 gN, Below wB.heap.size wB w' → Own kHd 45 w' wB.heap.size (.slice A9 n2 c9) hs → Own kPair 80 w' wB.heap.size (.slice A8 np c8) ps → w'.heap[gN]? = some (.cells #[.slice A8 np c8] 45 (0, 0)) → ∀ ty, Runs Try.prog (Builtin.append_ #[22, 22] ty #[.slice A9 n2 c9, .slice (some ⟨gN, 0, none⟩) 1 1]) w' fun v w'' => ∃ A7 c7, v = .slice A7 (n2 + 1) c7 ∧ Below wB.heap.size wB w'' ∧ Aside0 (Own kHd 45 w'' wB.heap.size (.slice A7 (n2 + 1) c7) (hs ++ [⟨A8, np, c8⟩]) ∧ Own kPair 80 w'' wB.heap.size (.slice A8 np c8) ps)) := ⟨fun w' A9 c9 A8 c8 gN hw hO9 hO8 hgN ty => by
      refine (append_own_runs Try.prog flat_hd 22 ty _ 24 Try.underlying22 info_hd18 rfl (by decide) hO9 (some ⟨gN, 0, none⟩) 1 1 rfl (hd_C w' ⟨A8, np, c8⟩ hgN) hw.size (by rw [← hn2]; show (n2 + 1) * 24 ≤ 140737488355328; omega) (by rw [← hn2]; show n2 + 1 ≤ 9223372036854775807; omega)).mono ?_
      rintro v w'' ⟨hO, hg⟩
      have hb : Below wB.heap.size wB w'' := hw.grown hg hw.size (fun i hi => Own.base_ hO9 i hi)
      have hO8' : Own kPair 80 w'' wB.heap.size (.slice A8 np c8) ps := hO8.other flat_pair hg (fun i hi e => by
        obtain ⟨cs1, k1⟩ := own_blkS hO8 hi
        obtain ⟨cs2, k2⟩ := own_blkS hO9 e
        rw [k1] at k2
        injection k2 with k2
        injection k2 with _ k2
        exact absurd k2 (by decide))
      obtain ⟨A7, c7, rfl, _, _⟩ := hO.reads
      rw [show (hs ++ [(⟨A8, np, c8⟩ : Hd)]).length = n2 + 1 from by rw [List.length_append, ← hn2]; rfl] at hO ⊢
      exact ⟨A7, c7, rfl, hb, ⟨hO, hO8'⟩⟩⟩
    have HEND : Aside0 (∀ w17 A7 c7 A8 c8, Below wB.heap.size wB w17 → Own kHd 45 w17 wB.heap.size (.slice A7 (n2 + 1) c7) (hs ++ [⟨A8, np, c8⟩]) → Own kPair 80 w17 wB.heap.size (.slice A8 np c8) ps → ∀ wE, wE = w17.setCell ⟨g, k * 3 + 2, none⟩ (.slice A7 (n2 + 1) c7) → (∃ P', RefS wE gR P' KA MA ∧ ∀ k, P' k → P k ∨ w1.heap.size ≤ k) ∧ Ch w1 wE P) := ⟨fun w17 A7 c7 A8 c8 hw hO7 hO8 wE hE => by
      rw [hhs] at hO7
      obtain ⟨⟨P', hR, hP'⟩, hcE⟩ := HP2.out.chunk HND.out a b k hke hkk hkey (.slice A7 (n2 + 1) c7) ⟨A8, np, c8⟩ ps HNP.out w17 hw hO7 hO8 wE hE
      rw [HKA.out, HE.out.2.2]
      refine ⟨⟨P', hR, fun i hi => ?_⟩, HPC.out.2.trans hcE (fun i hlt hi => (HPC.out.1 i hi).resolve_right (by omega))⟩
      rcases hP' i hi with h | h
      · exact HPC.out.1 i h
      · exact .inr (Nat.le_trans HPC.out.2.size h)⟩
    have hBd : Below wB.heap.size wB wB.drew := below_drewS wB
    have hcv2 := (HK0.out wB (Below.refl _ _)).1
    clear p hC hfr ho hlh hk2 e1 e2 hv2 hC2 hhs hn2 hkey f2 hke hkk hmm
    go_upto_region 9 with (fail)
    refine Rest.begin (S := fun l w' => l.getD 20 true = false → (w'.cell? ⟨gR, 0, none⟩ = some (.slice (some ⟨g, 0, none⟩) mm cm) ∧ w'.cell? ⟨g, k * 3 + 2, none⟩ = some (.slice A2 n2 c2))) (by kernel_rfl) ?_
    have hSend : ∀ (l : Array Bool) (w' : World), l.getD 20 true = true → (l.getD 20 true = false → (w'.cell? ⟨gR, 0, none⟩ = some (.slice (some ⟨g, 0, none⟩) mm cm) ∧ w'.cell? ⟨g, k * 3 + 2, none⟩ = some (.slice A2 n2 c2))) := fun l w' h1 h => by rw [h1] at h; cases h
    have hs := HK0.out wB.drew hBd
    refine Rest.take (i := 0) (v := ?_) rfl (by kernel_rfl) (by kernel_rfl) (by kernel_rfl) (fun _ _ _ h => h) (fun l w => by rw [getD_set_ne true (by decide)]) (fun _ => hs) (Or.inl ⟨by kernel_rfl, ?_⟩) ?_
    rotate_left 1
    · (intro w _; go_simp; try with_reducible rfl)
    simp only [List.getElem_toArray, List.getElem_cons_succ, List.getElem_cons_zero, Act.put, List.setIfInBounds_toArray, List.set_cons_zero, List.set_cons_succ]
    refine Rest.take (i := 1) (v := ?_) rfl (by kernel_rfl) (by kernel_rfl) (by kernel_rfl) (fun _ _ _ h => h) (fun l w => by rw [getD_set_ne true (by decide)]) (fun _ => hs) (Or.inl ⟨by kernel_rfl, ?_⟩) ?_
    rotate_left 1
    · (intro w _; go_simp; try with_reducible rfl)
    simp only [List.getElem_toArray, List.getElem_cons_succ, List.getElem_cons_zero, Act.put, List.setIfInBounds_toArray, List.set_cons_zero, List.set_cons_succ]
    refine Rest.take (i := 2) (v := ?_) rfl (by kernel_rfl) (by kernel_rfl) (by kernel_rfl) (fun _ _ _ h => h) (fun l w => by rw [getD_set_ne true (by decide)]) (fun _ => hs) (Or.inl ⟨by kernel_rfl, ?_⟩) ?_
    rotate_left 1
    · (intro w _; go_simp; try with_reducible rfl)
    simp only [List.getElem_toArray, List.getElem_cons_succ, List.getElem_cons_zero, Act.put, List.setIfInBounds_toArray, List.set_cons_zero, List.set_cons_succ]
    refine Rest.heldTo (z := 20) (i := 3) (v := ?_) [18, 19, 20] rfl (by kernel_rfl) (by kernel_rfl) (by kernel_rfl) (by decide) (fun _ _ _ h => h) (by decide) (by kernel_rfl) (by kernel_rfl) hs (Or.inl ⟨by kernel_rfl, ?_⟩) ?_
    rotate_left 1
    · (intro w hSw; (try dsimp only at hSw); go_simp; try with_reducible rfl)
    simp only [List.getElem_toArray, List.getElem_cons_succ, List.getElem_cons_zero, Act.put, List.setIfInBounds_toArray, List.set_cons_zero, List.set_cons_succ]
    refine Rest.take (i := 4) (v := ?_) rfl (by kernel_rfl) (by kernel_rfl) (by kernel_rfl) (fun _ _ _ h => h) (fun l w => by rw [getD_set_ne true (by decide)]) (fun _ => hs) (Or.inl ⟨by kernel_rfl, ?_⟩) ?_
    rotate_left 1
    · (intro w _; go_simp; try with_reducible rfl)
    simp only [List.getElem_toArray, List.getElem_cons_succ, List.getElem_cons_zero, Act.put, List.setIfInBounds_toArray, List.set_cons_zero, List.set_cons_succ]
    refine Rest.take (i := 5) (v := ?_) rfl (by kernel_rfl) (by kernel_rfl) (by kernel_rfl) (fun _ _ _ h => h) (fun l w => by rw [getD_set_ne true (by decide)]) (fun _ => hs) (Or.inl ⟨by kernel_rfl, ?_⟩) ?_
    rotate_left 1
    · (intro w _; go_simp; try with_reducible rfl)
    simp only [List.getElem_toArray, List.getElem_cons_succ, List.getElem_cons_zero, Act.put, List.setIfInBounds_toArray, List.set_cons_zero, List.set_cons_succ]
    refine Rest.take (i := 6) (v := ?_) rfl (by kernel_rfl) (by kernel_rfl) (by kernel_rfl) (fun _ _ _ h => h) (fun l w => by rw [getD_set_ne true (by decide)]) (fun _ => hs) (Or.inl ⟨by kernel_rfl, ?_⟩) ?_
    rotate_left 1
    · (intro w _; go_simp; try with_reducible rfl)
    simp only [List.getElem_toArray, List.getElem_cons_succ, List.getElem_cons_zero, Act.put, List.setIfInBounds_toArray, List.set_cons_zero, List.set_cons_succ]
    refine Rest.take (i := 7) (v := ?_) rfl (by kernel_rfl) (by kernel_rfl) (by kernel_rfl) (fun _ _ _ h => h) (fun l w => by rw [getD_set_ne true (by decide)]) (fun _ => hs) (Or.inl ⟨by kernel_rfl, ?_⟩) ?_
    rotate_left 1
    · (intro w _; go_simp; try with_reducible rfl)
    simp only [List.getElem_toArray, List.getElem_cons_succ, List.getElem_cons_zero, Act.put, List.setIfInBounds_toArray, List.set_cons_zero, List.set_cons_succ]
    refine Rest.heldTo (z := 20) (i := 8) (v := ?_) [10, 11, 12, 13, 17, 20] rfl (by kernel_rfl) (by kernel_rfl) (by kernel_rfl) (by decide) (fun _ _ _ h => h) (by decide) (by kernel_rfl) (by kernel_rfl) hs (Or.inl ⟨by kernel_rfl, ?_⟩) ?_
    rotate_left 1
    · (intro w hSw; (try dsimp only at hSw); go_simp; try with_reducible rfl)
    simp only [List.getElem_toArray, List.getElem_cons_succ, List.getElem_cons_zero, Act.put, List.setIfInBounds_toArray, List.set_cons_zero, List.set_cons_succ]
    refine Rest.take (i := 9) (v := ?_) rfl (by kernel_rfl) (by kernel_rfl) (by kernel_rfl) (fun _ _ _ h => h) (fun l w => by rw [getD_set_ne true (by decide)]) (fun _ => hs) (Or.inl ⟨by kernel_rfl, ?_⟩) ?_
    rotate_left 1
    · (intro w _; go_simp; try with_reducible rfl)
    simp only [List.getElem_toArray, List.getElem_cons_succ, List.getElem_cons_zero, Act.put, List.setIfInBounds_toArray, List.set_cons_zero, List.set_cons_succ]
    refine Rest.take (i := 10) (v := ?_) rfl (by kernel_rfl) (by kernel_rfl) (by kernel_rfl) (fun _ _ _ h => h) (fun l w => by rw [getD_set_ne true (by decide)]) (fun _ => hs) (Or.inl ⟨by kernel_rfl, ?_⟩) ?_
    rotate_left 1
    · (intro w _; go_simp; try with_reducible rfl)
    simp only [List.getElem_toArray, List.getElem_cons_succ, List.getElem_cons_zero, Act.put, List.setIfInBounds_toArray, List.set_cons_zero, List.set_cons_succ]
    refine Rest.take (i := 11) (v := ?_) rfl (by kernel_rfl) (by kernel_rfl) (by kernel_rfl) (fun _ _ _ h => h) (fun l w => by rw [getD_set_ne true (by decide)]) (fun _ => hs) (Or.inl ⟨by kernel_rfl, ?_⟩) ?_
    rotate_left 1
    · (intro w _; go_simp; try with_reducible rfl)
    simp only [List.getElem_toArray, List.getElem_cons_succ, List.getElem_cons_zero, Act.put, List.setIfInBounds_toArray, List.set_cons_zero, List.set_cons_succ]
    refine Rest.heldTo (z := 20) (i := 12) (v := ?_) [13, 17, 20] rfl (by kernel_rfl) (by kernel_rfl) (by kernel_rfl) (by decide) (fun _ _ _ h => h) (by decide) (by kernel_rfl) (by kernel_rfl) hs (Or.inl ⟨by kernel_rfl, ?_⟩) ?_
    rotate_left 1
    · (intro w hSw; (try dsimp only at hSw); go_simp; try with_reducible rfl)
    simp only [List.getElem_toArray, List.getElem_cons_succ, List.getElem_cons_zero, Act.put, List.setIfInBounds_toArray, List.set_cons_zero, List.set_cons_succ]
    refine Rest.take (i := 14) (v := ?_) rfl (by kernel_rfl) (by kernel_rfl) (by kernel_rfl) (fun _ _ _ h => h) (fun l w => by rw [getD_set_ne true (by decide)]) (fun _ => hs) (Or.inl ⟨by kernel_rfl, ?_⟩) ?_
    rotate_left 1
    · (intro w _; go_simp; try with_reducible rfl)
    simp only [List.getElem_toArray, List.getElem_cons_succ, List.getElem_cons_zero, Act.put, List.setIfInBounds_toArray, List.set_cons_zero, List.set_cons_succ]
    clear hs
    refine Rest.one (i := 13) (by kernel_rfl) rfl ?_
    intro K hK
    refine step_app_runR (by kernel_rfl) (.const (.slice none 0 0)) (.tmp 69) 22 rfl (.slice none 0 0) (.slice A2 n2 c2) (by simp [Act.eval, Act.put]) (by simp [Act.eval, Act.put]) (HA13.out wB.drew hBd) ?_
    rintro _ w13 ⟨A9, c9, rfl, hB13, hS13, hO13⟩
    refine hK.out _ _ (fun _ => HK0.out w13 hB13) ?_
    clear hK K
    refine Rest.one (i := 15) (by kernel_rfl) rfl ?_
    intro K hK
    refine step_app_runR (by kernel_rfl) (.const (.slice none 0 0)) (.tmp 71) 45 rfl (.slice none 0 0) (.slice A np c) (by simp [Act.eval, Act.put]) (by simp [Act.eval, Act.put]) (HA15.out w13 hB13) ?_
    rintro _ w15 ⟨A8, c8, rfl, hB15, hS15, hO15⟩
    refine hK.out _ _ (fun _ => HK0.out w15 hB15) ?_
    clear hK K
    refine Rest.one (i := 16) (by kernel_rfl) rfl ?_
    intro K hK
    rw [if_pos (by kernel_rfl)]
    go_simp
    have hB16 := below_then hB15 (hB15).size ((Below.refl w15.heap.size w15).alloc (Nat.le_refl _) (.cells #[.slice A8 np c8] 45))
    refine hK.out _ _ (fun _ => HK0.out _ hB16) ?_
    clear hK K
    refine Rest.one (i := 17) (by kernel_rfl) rfl ?_
    intro K hK
    refine step_app_runR (by kernel_rfl) (.tmp 70) (.tmp 73) 22 rfl (.slice A9 n2 c9) (.slice (some ⟨w15.heap.size, 0, none⟩) 1 1) (by simp [Act.eval, Act.put]) (by simp [Act.eval, Act.put]) (HA17.out _ A9 c9 A8 c8 w15.heap.size hB16 (Own.below (Own.below hO13.out hS15) ((Below.refl w15.heap.size w15).alloc (Nat.le_refl _) _)) (Own.below hO15.out ((Below.refl w15.heap.size w15).alloc (Nat.le_refl _) _)) (alloc_at w15 _)) ?_
    rintro _ w17 ⟨A7, c7, rfl, hB17, hO17⟩
    refine hK.out _ _ (fun _ => HK0.out w17 hB17) ?_
    clear hK K
    obtain ⟨_, q2⟩ := HK0.out w17 hB17
    have z17 := HFZ.out w17 hB17
    have hs := HK0.out w17 hB17
    refine Rest.take (i := 18) (v := ?_) rfl (by kernel_rfl) (by kernel_rfl) (by kernel_rfl) (fun _ _ _ h => h) (fun l w => by rw [getD_set_ne true (by decide)]) (fun _ => hs) (Or.inl ⟨by kernel_rfl, ?_⟩) ?_
    rotate_left 1
    · (intro w _; go_simp; try with_reducible rfl)
    simp only [List.getElem_toArray, List.getElem_cons_succ, List.getElem_cons_zero, Act.put, List.setIfInBounds_toArray, List.set_cons_zero, List.set_cons_succ]
    refine Rest.take (i := 19) (v := ?_) rfl (by kernel_rfl) (by kernel_rfl) (by kernel_rfl) (fun _ _ _ h => h) (fun l w => by rw [getD_set_ne true (by decide)]) (fun _ => hs) (Or.inl ⟨by kernel_rfl, ?_⟩) ?_
    rotate_left 1
    · (intro w _; go_simp; try with_reducible rfl)
    simp only [List.getElem_toArray, List.getElem_cons_succ, List.getElem_cons_zero, Act.put, List.setIfInBounds_toArray, List.set_cons_zero, List.set_cons_succ]
    clear hs
    refine Rest.one (i := 20) (by kernel_rfl) rfl ?_
    intro K hK
    rw [if_pos (by kernel_rfl)]
    go_simp
    refine hK.out _ _ (hSend _ _ (by kernel_rfl)) ?_
    clear hK K
    refine Rest.done (by kernel_rfl) ?_ _
    have HEN := Aside0.mk (HEND.out w17 A7 c7 A8 c8 hB17 hO17.out.1 hO17.out.2 _ rfl)
    clear q2 z17 hO17
    go_wp2_with fail
    go_ret
    exact ⟨by rw [HPN.out]; rfl, HEN.out⟩
end
end Go.Proofs.Ytckjgfbfjjiikaa.K
