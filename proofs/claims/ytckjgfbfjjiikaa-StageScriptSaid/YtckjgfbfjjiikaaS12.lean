/- The document's stage: at, Next, Take, Drop. -/
import Derived.Test.YtckjgfbfjjiikaaS11
import Derived.Deep.LoopGhost
set_option linter.unusedVariables false
set_option linter.unusedSimpArgs false
set_option maxRecDepth 100000
namespace Go.Proofs.Ytckjgfbfjjiikaa.K
open Go.RowKit Go.Proofs.YtckjgfbfjjiikaaW.PrintWords Go.Proofs.YtckjgfbfjjiikaaW.PrintLast Go.Proofs.YtckjgfbfjjiikaaW.PrintMore Go.Proofs.Ytckjgfbfjjiikaa.U Go.Proofs.Ytckjgfbfjjiikaa.T

section
variable {w w' : World} {gR : Nat} {P Z S : Nat → Prop} {v : Value} {es : List ER} {ks : List (Int × Int)} {M : Int → Int → List (List PairD)}
theorem add3 (g k : Nat) : (⟨g, 0, none⟩ : Addr).add (k * 3) = ⟨g, k * 3, none⟩ := by rw [add_plain]
/-- A row's cells. -/
theorem own_ER {A : Option Addr} {c : Nat} (h : Own kER 87 w 0 (.slice A es.length c) es) (k : Nat) (hk : k < es.length) : ∃ g, A = some ⟨g, 0, none⟩ ∧ w.cell? ⟨g, k * 3, none⟩ = some (.int .i64 es[k].a) ∧ w.cell? ⟨g, k * 3 + 1, none⟩ = some (.int .i64 es[k].b) ∧ w.cell? ⟨g, k * 3 + 2, none⟩ = some es[k].v ∧ (∀ i, w.frozen? ⟨g, k * 3 + i, none⟩ = false) := by
  obtain ⟨g, cap, he, hbg, hlt, _⟩ := Kd.R_form h (by omega)
  simp only [Value.slice.injEq] at he
  obtain ⟨rfl, _, rfl⟩ := he
  obtain ⟨ce, hcl, hM, hcc, hfr⟩ := Kd.R_elem h zeroER (k : Int) (by omega) (by omega)
  have e : es.getD (k : Int).toNat zeroER = es[k] := by rw [Int.toNat_natCast, List.getD_eq_getElem?_getD, List.getElem?_eq_getElem hk]; rfl
  rw [e] at hM
  obtain ⟨hce, _⟩ := hM
  rw [hce] at hcc
  rw [Int.toNat_natCast] at hcc hfr
  exact ⟨g, rfl, hcc 0 _ rfl, hcc 1 _ rfl, hcc 2 _ rfl, hfr⟩
theorem own_Hd {A : Option Addr} {c : Nat} {hs : List Hd} (h : Own kHd 45 w 0 (.slice A hs.length c) hs) (k : Nat) (hk : k < hs.length) : ∃ g, A = some ⟨g, 0, none⟩ ∧ w.cell? ⟨g, k, none⟩ = some (hdV hs[k]) := by
  obtain ⟨g, cap, he, hbg, hlt, _⟩ := Kd.R_form h (by omega)
  simp only [Value.slice.injEq] at he
  obtain ⟨rfl, _, rfl⟩ := he
  obtain ⟨ce, hcl, hM, hcc, hfr⟩ := Kd.R_elem h ⟨none, 0, 0⟩ (k : Int) (by omega) (by omega)
  have e : hs.getD (k : Int).toNat ⟨none, 0, 0⟩ = hs[k] := by rw [Int.toNat_natCast, List.getD_eq_getElem?_getD, List.getElem?_eq_getElem hk]; rfl
  rw [e] at hM
  have hce : ce = [hdV hs[k]] := hM
  rw [hce] at hcc
  rw [Int.toNat_natCast] at hcc
  have h1 : kHd.sz = 1 := rfl
  have := hcc 0 _ rfl
  rw [h1, Nat.mul_one] at this
  exact ⟨g, rfl, this⟩
theorem refAt (p : RefP w gR P Z v es ks M) (a b : Int) : Calls Try.prog 59 #[.pointer (some ⟨gR, 0, none⟩), .int .i64 a, .int .i64 b] w fun e w' => ∃ i : Int, e = .returned (.int .i64 i) ∧ Aside0 ((i = -1 ∧ (a, b) ∉ ks) ∨ ∃ k : Nat, i = k ∧ ∃ h : k < ks.length, ks[k] = (a, b)) ∧ w' = w := by
  obtain ⟨A, c, rfl, hle, hC⟩ := p.form
  have hmx := Kd.C_max hC
  have hcv := p.c_v
  obtain ⟨n, hn⟩ : ∃ n, n = es.length := ⟨_, rfl⟩
  rw [← hn] at hcv hmx
  have HP := Aside0.mk p
  have HN := Aside0.mk hn
  clear p hC hle hn
  go_enter Try.func59, Try.ntmps59
  go_wp2_with fail
  go_loopg [7] n (fun kq v7 w' => ∃ k : Nat, k + kq = n ∧ v7 = .int .i64 k ∧ Aside0 (∀ j (h : j < ks.length), j < k → ks[j] ≠ (a, b)) ∧ w' = w)
  case atStart => exact ⟨0, by omega, rfl, ⟨fun j h hj => absurd hj (Nat.not_lt_zero _)⟩, rfl⟩
  case round =>
    obtain ⟨k, hk, rfl, HA, rfl⟩ := hrel
    by_cases hlt : k < n
    · have hltI : (k : Int) < n := by omega
      have hk0 : (0 : Int) ≤ (k : Int) := by omega
      have hke : k < es.length := by rw [← HN.out]; exact hlt
      have hkk : k < ks.length := by rw [← HP.out.len]; exact hke
      obtain ⟨g, rfl, f0, f1, f2, _⟩ := own_ER HP.out.row k hke
      have hkey := HP.out.key k hke hkk
      obtain ⟨x, hx⟩ : ∃ x, x = es[k].a := ⟨_, rfl⟩
      obtain ⟨y, hy⟩ : ∃ x, x = es[k].b := ⟨_, rfl⟩
      rw [← hx] at f0 hkey
      rw [← hy] at f1 hkey
      have h3 := add3 g k
      have HKEY : Aside0 (ks[k]'hkk = (x, y)) := ⟨hkey⟩
      have HKK := Aside0.mk hkk
      clear f2 hx hy hkey
      by_cases hxa : x = a
      · have hxa' : (x == a) = true := by rw [hxa]; simp
        by_cases hyb : y = b
        · have hyb' : (y == b) = true := by rw [hyb]; simp
          have HF : Aside0 (ks[k]'HKK.out = (a, b)) := ⟨by rw [HKEY.out, hxa, hyb]⟩
          clear hxa hyb hkk hke HKEY
          go_wp2_with fail
          go_ret
          exact ⟨(k : Int), rfl, ⟨.inr ⟨k, rfl, HKK.out, HF.out⟩⟩, rfl⟩
        · have hyb' : (y == b) = false := beq_eq_false_iff_ne.2 hyb
          have HNE : Aside0 (ks[k]'HKK.out ≠ (a, b)) := ⟨by rw [HKEY.out]; exact fun e => hyb (Prod.mk.inj e).2⟩
          clear hyb hxa hkk hke HKEY
          go_wp2_with fail
          go_roundg (n - (k + 1))
          case measure => omega
          case rel => exact ⟨k + 1, by omega, by go_num, ⟨fun j h hj => by
            rcases Nat.lt_or_ge j k with h1 | h1
            · exact HA.out j h h1
            · obtain rfl : j = k := by omega
              exact HNE.out⟩, rfl⟩
      · have hxa' : (x == a) = false := beq_eq_false_iff_ne.2 hxa
        have HNE : Aside0 (ks[k]'HKK.out ≠ (a, b)) := ⟨by rw [HKEY.out]; exact fun e => hxa (Prod.mk.inj e).1⟩
        clear hxa hkk hke HKEY
        go_wp2_with fail
        go_roundg (n - (k + 1))
        case measure => omega
        case rel => exact ⟨k + 1, by omega, by go_num, ⟨fun j h hj => by
          rcases Nat.lt_or_ge j k with h1 | h1
          · exact HA.out j h h1
          · obtain rfl : j = k := by omega
            exact HNE.out⟩, rfl⟩
    · obtain rfl : n = k := by omega
      have hltI : ¬ (n : Int) < n := by omega
      have HNO : Aside0 ((a, b) ∉ ks) := ⟨fun hm => by
        obtain ⟨j, hj, e⟩ := List.getElem_of_mem hm
        exact HA.out j hj (by rw [HN.out, HP.out.len]; exact hj) e⟩
      go_wp2_with fail
      go_ret
      exact ⟨-1, rfl, ⟨.inl ⟨rfl, HNO.out⟩⟩, rfl⟩
theorem refNext (p : RefP w gR P Z v es ks M) (ok : MOk ks M) (a b : Int) : Calls Try.prog 40 #[.pointer (some ⟨gR, 0, none⟩), .int .i64 a, .int .i64 b] w fun e w' => e = .returned (.int .i64 (M a b).length) ∧ w' = w := by
  have HAT := Aside0.mk (refAt p a b)
  obtain ⟨n, hn⟩ : ∃ n, n = (M a b).length := ⟨_, rfl⟩
  rw [← hn]
  have HP := Aside0.mk p
  have HOK := Aside0.mk ok
  have HN := Aside0.mk hn
  clear p ok hn
  go_enter Try.func40, Try.ntmps40
  go_wp2_with fail
  refine HAT.out.mono ?_
  rintro e w1 ⟨i, rfl, HI, rfl⟩
  rcases HI.out with ⟨rfl, hno⟩ | ⟨k, rfl, hk, hkey⟩
  · have HN0 : Aside0 (n = 0) := ⟨by
      rw [HN.out]
      by_cases h0 : M a b = []
      · rw [h0]; rfl
      · exact absurd ((HOK.out.mem a b).2 h0) hno⟩
    clear hno
    go_wp2_with fail
    go_ret
    exact ⟨by rw [HN0.out]; rfl, rfl⟩
  · have hke : k < es.length := by rw [HP.out.len]; exact hk
    obtain ⟨A, c, hv, _, hC⟩ := HP.out.form
    have hmx := Kd.C_max hC
    have hcv := HP.out.c_v
    have hrow := HP.out.row
    rw [hv] at hcv hrow
    obtain ⟨g, rfl, f0, f1, f2, _⟩ := own_ER hrow k hke
    have hkk := HP.out.key k hke hk
    rw [hkey] at hkk
    obtain ⟨e1, e2⟩ := Prod.mk.inj hkk
    obtain ⟨ho, _, hl⟩ := HP.out.hd es[k] (List.getElem_mem hke)
    rw [← e1, ← e2, ← HN.out] at hl
    obtain ⟨A2, c2, hv2, _, _⟩ := ho.reads
    rw [hv2, hl] at f2
    obtain ⟨m, hm⟩ : ∃ m, m = es.length := ⟨_, rfl⟩
    rw [← hm] at hcv hmx hke
    have hkI : (k : Int) < m := by omega
    have hk0 : (0 : Int) ≤ (k : Int) := by omega
    have h3 := add3 g k
    clear f0 f1 hkk e1 e2 ho hl hv2 hm hv hC hrow hkey hk hke
    go_wp2_with fail
    go_ret
    exact ⟨rfl, rfl⟩
theorem refTake_no (p : RefP w gR P Z v es ks M) (ok : MOk ks M) (a b n : Int) (hn : n ≠ (M a b).length) : Calls Try.prog 34 #[.pointer (some ⟨gR, 0, none⟩), .int .i64 a, .int .i64 b, .int .i64 n] w fun e w' => e = .returned (.tuple #[.slice none 0 0, .bool false]) ∧ w' = w := by
  have HNX := refNext p ok a b
  obtain ⟨m, hm⟩ : ∃ m, m = (M a b).length := ⟨_, rfl⟩
  rw [← hm] at HNX hn
  have HN := Aside0.mk HNX
  clear HNX hm p ok
  by_cases h0 : n < 0
  · have h0' := decide_eq_true h0
    go_enter Try.func34, Try.ntmps34
    go_wp2_with fail
    go_ret2
    exact ⟨rfl, rfl⟩
  · have h0' := decide_eq_false h0
    have hb : ((m : Int) != n) = true := bne_iff_ne.2 (fun e => hn e.symm)
    go_enter Try.func34, Try.ntmps34
    go_wp2_with fail
    refine HN.out.mono ?_
    rintro e w1 ⟨rfl, rfl⟩
    go_wp2_with fail
    go_ret2
    exact ⟨rfl, rfl⟩
set_option maxHeartbeats 1600000 in
theorem refTake_ok (p : RefP w gR P Z v es ks M) (ok : MOk ks M) (a b : Int) (hfl : (M a b).flatten.length ≤ 100000000) : Calls Try.prog 34 #[.pointer (some ⟨gR, 0, none⟩), .int .i64 a, .int .i64 b, .int .i64 (M a b).length] w fun e w' => ∃ v Y, e = .returned (.tuple #[v, .bool true]) ∧ Own kPair 80 w' w.heap.size v Y ∧ Aside0 (Y = (M a b).flatten) ∧ Below w.heap.size w w' := by
  have HNX := refNext p ok a b
  have HAT := Aside0.mk (refAt p a b)
  obtain ⟨X, hX⟩ : ∃ X, X = M a b := ⟨_, rfl⟩
  rw [← hX] at HNX hfl
  rw [← hX]
  obtain ⟨m, hm⟩ : ∃ m, m = X.length := ⟨_, rfl⟩
  rw [← hm] at HNX
  rw [← hm]
  have HN := Aside0.mk HNX
  have HP := Aside0.mk p
  have HOK := Aside0.mk ok
  have HX := Aside0.mk hX
  have HM := Aside0.mk hm
  have HFL := Aside0.mk hfl
  have hm40 : m ≤ 40 := by rw [hm, hX]; exact ok.len a b
  have hb : ((m : Int) != (m : Int)) = false := by simp
  have hz : ¬ (m : Int) < 0 := by omega
  clear HNX p ok hX hm hfl
  go_enter Try.func34, Try.ntmps34
  go_wp2_with fail
  refine HN.out.mono ?_
  rintro e w1 ⟨rfl, rfl⟩
  go_wp2_with fail
  refine HAT.out.mono ?_
  rintro e w1 ⟨i, rfl, HI, rfl⟩
  go_wp2_with fail
  go_loopg [11, 12] m (fun kq v11 v12 w' => ∃ (k : Nat) (A : Option Addr) (l c : Nat), k + kq = m ∧ v12 = .int .i64 k ∧ v11 = .slice A l c ∧ Aside0 (Own kPair 80 w' w1.heap.size (.slice A l c) (X.take k).flatten ∧ l = (X.take k).flatten.length) ∧ Aside0 (Below w1.heap.size w1 w'))
  case atStart => exact ⟨0, none, 0, 0, by omega, rfl, rfl, ⟨by simpa using Own.nil _ _ _ _, by simp⟩, ⟨Below.refl _ _⟩⟩
  case round =>
    obtain ⟨k, A, l, c, hk, rfl, rfl, HO, HB⟩ := hrel
    by_cases hlt : k < m
    · have hltI : (k : Int) < m := by omega
      have hk0 : (0 : Int) ≤ (k : Int) := by omega
      have hkX : k < X.length := by rw [← HM.out]; exact hlt
      have hex : ∃ q : Nat, i = q ∧ ∃ h : q < ks.length, ks[q] = (a, b) := by
        rcases HI.out with ⟨_, hno⟩ | h
        · exfalso
          refine hno ((HOK.out.mem a b).2 (fun h0 => ?_))
          rw [HX.out, h0] at hkX
          exact absurd hkX (Nat.not_lt_zero _)
        · exact h
      obtain ⟨q, rfl, hq, hkey⟩ := hex
      have p := HP.out.below HB.out
      have hqe : q < es.length := by rw [p.len]; exact hq
      obtain ⟨Av, cv, hv, _, hC⟩ := p.form
      have hmx := Kd.C_max hC
      have hcv := p.c_v
      have hrow := p.row
      rw [hv] at hcv hrow
      obtain ⟨g, rfl, f0, f1, f2, _⟩ := own_ER hrow q hqe
      have hkk := p.key q hqe hq
      rw [hkey] at hkk
      obtain ⟨e1, e2⟩ := Prod.mk.inj hkk
      obtain ⟨ho, _, hl⟩ := p.hd es[q] (List.getElem_mem hqe)
      have hch := p.ch es[q] (List.getElem_mem hqe) k (by rw [hl, ← e1, ← e2, ← HX.out]; exact hkX) (by rw [← e1, ← e2, ← HX.out]; exact hkX)
      obtain ⟨A2, c2, hv2, _, _⟩ := ho.reads
      rw [hv2] at ho f2
      obtain ⟨g2, rfl, hhd⟩ := own_Hd ho k (by rw [hl, ← e1, ← e2, ← HX.out]; exact hkX)
      rw [hl] at f2
      have hXe : (M es[q].a es[q].b)[k]'(by rw [← e1, ← e2, ← HX.out]; exact hkX) = X[k] := by
        have : M es[q].a es[q].b = X := by rw [← e1, ← e2, HX.out]
        simp [this]
      rw [hXe] at hch
      have hlm : (M es[q].a es[q].b).length = m := by rw [← e1, ← e2, ← HX.out, HM.out]
      rw [hlm] at f2
      obtain ⟨A3, c3, hv3, -, hC3⟩ := Kd.R_reads hch
      rw [hv3] at hhd
      obtain ⟨Y, hY⟩ : ∃ Y, Y = X[k] := ⟨_, rfl⟩
      rw [← hY] at hhd hC3
      obtain ⟨mm, hmm⟩ : ∃ mm, mm = es.length := ⟨_, rfl⟩
      rw [← hmm] at hcv hmx hqe
      have hqI : (q : Int) < mm := by omega
      have hq0 : (0 : Int) ≤ (q : Int) := by omega
      have h3 := add3 g q
      have h4 : (⟨g2, 0, none⟩ : Addr).add k = ⟨g2, k, none⟩ := by rw [add_plain]
      have HC3 := Aside0.mk hC3
      have HSUM : Aside0 ((X.take (k + 1)).flatten = (X.take k).flatten ++ Y) := ⟨by rw [flat_take X k hkX, hY]⟩
      have HLE : Aside0 (l + Y.length ≤ 100000000) := ⟨by
        have h1 := flat_take_le X (k + 1)
        rw [HSUM.out, List.length_append, ← HO.out.2] at h1
        have := HFL.out
        omega⟩
      obtain ⟨l4, hl4⟩ : ∃ l4, l4 = (X.take (k + 1)).flatten.length := ⟨_, rfl⟩
      have HL4 := Aside0.mk hl4
      clear f0 f1 hkk e1 e2 ho hl hv2 hmm hv hC hrow hkey hq hqe p hch hXe hlm hv3 hC3 hY hkX hl4
      go_wp2_with (at_builtin; refine wpList_app_own flat_pair w1.heap.size rfl _ _ 45 80 _ 32 rfl Try.underlying45 info_pair rfl (by decide) (by decide) (.slice A l c) _ Y A3 Y.length c3 rfl rfl HO.out.1 rfl HC3.out HB.out.size (by rw [← HO.out.2]; have := HLE.out; omega) ?_; intro v4 w4 hv4 hg4 hat4; rw [← HSUM.out] at hv4; obtain ⟨A4, c4, rfl, _, _⟩ := hv4.reads; rw [← HL4.out] at hv4 ⊢; have HV4 := Aside0.mk hv4; have HB4 := Aside0.mk (Below.ch HB.out (Ch.of_grown (S := fun j => (Value.slice A l c).ownBlock = some j) hg4 (fun j hj => hj)) HB.out.size (fun j hj => HO.out.1.base_ j hj)); clear hv4 hg4 hat4)
      go_roundg (m - (k + 1))
      case measure => omega
      case rel => exact ⟨k + 1, A4, l4, c4, by omega, by go_num, rfl, ⟨HV4.out, HL4.out⟩, HB4⟩
    · obtain rfl : m = k := by omega
      have hltI : ¬ (m : Int) < m := by omega
      have HE : Aside0 ((X.take m).flatten = X.flatten) := ⟨by rw [HM.out, List.take_length]⟩
      go_wp2_with fail
      go_ret2
      first | exact ⟨_, _, rfl, HO.out.1, HE, HB.out⟩ | exact ⟨_, rfl, _, HO.out.1, HE, HB.out⟩
end
end Go.Proofs.Ytckjgfbfjjiikaa.K
