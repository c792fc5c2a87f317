/- Loops over the values, as the pure machine does them. -/
import Derived.Test.YthdinhgadefgaaaDoorM18
set_option linter.unusedVariables false
set_option linter.unusedSimpArgs false
set_option maxRecDepth 100000
namespace Go.Proofs.YthdinhgadefgaaaDoor.K
open Go.RowKit Go.Proofs.YthdinhgadefgaaaDoorW.PrintWords Go.Proofs.YthdinhgadefgaaaDoorW.PrintLast Go.Proofs.YthdinhgadefgaaaDoorW.PrintMore Go.Proofs.YthdinhgadefgaaaDoor.U Go.Proofs.YthdinhgadefgaaaDoor.T Go.Proofs.YthdinhgadefgaaaDoor.V

theorem playN_go {key : ByteArray} {p : List InsD} {s s' : St} (k : Nat) (hg : goesOn p s) (h : stepF key p s = (0, s')) : playN key p (k + 1) s = playN key p k s' := by
  rw [playN_succ, if_pos hg, h, if_pos rfl]
theorem playN_halt {key : ByteArray} {p : List InsD} {s : St} (k : Nat) (hg : ¬ goesOn p s) : playN key p k s = (0, s) := by
  cases k with
  | zero => rw [playN_zero, if_neg hg]
  | succ k => rw [playN_succ, if_neg hg]
theorem push_two (s : St) (b : ByteArray) (n : Int) (hb : b.size ≤ 64) (hl : s.stack.length < 15) : pushP s [txtV b, intV n] = (0, { s with stack := s.stack ++ [txtV b, intV n] }) := by
  have h1 : ¬ ∃ v ∈ [txtV b, intV n], BigV v := by
    rintro ⟨v, hv, hB⟩
    rcases List.mem_cons.1 hv with rfl | hv
    · have h2 : 64 < b.size := hB.2
      omega
    · obtain rfl := List.mem_singleton.1 hv
      cases hB.1
  have hw : pushW s.stack [txtV b, intV n] = 0 := by
    unfold pushW
    rw [if_neg h1, if_neg (by simp; omega)]
  unfold pushP pushS
  rw [hw, if_pos rfl]
theorem emit_ok (s : St) (k v : ByteArray) (hk : k.size ≤ 16) (ht : s.told.length < 40) : (emitW s k, emitS s k v) = (0, { s with told := s.told ++ [⟨k, v⟩] }) := by
  have hw : emitW s k = 0 := by unfold emitW; rw [if_neg (by omega), if_neg (by omega)]
  unfold emitS
  rw [hw, if_pos rfl]
def valP : List InsD := [insN 7 0, insN 20 3, insN 0 0, insN 22 0, insN 6 0, insN 21 0, insN 23 0, insN 19 0]
def vSt (vals : List ByteArray) (at_ n : Int) (h : Bool) (st : List ValD) (r0 : ValD) (rest : List ValD) (told : List PairD) : St := ⟨vals, at_, n, h, st, r0 :: rest, told⟩
theorem val_on (vals : List ByteArray) (j : Nat) (hj : j < 8) (n : Int) (st : List ValD) (r0 : ValD) (rest : List ValD) (told : List PairD) : goesOn valP (vSt vals (j : Int) n false st r0 rest told) := ⟨by show (j : Int) < ((8 : Nat) : Int); omega, rfl⟩
theorem val_six (key : ByteArray) (hk : key.size ≤ 16) (v : ByteArray) (hv : v.size ≤ 64) (vs : List ByteArray) (n : Int) (r0 : ValD) (rest : List ValD) (told : List PairD) (k : Nat) :
    playN key valP (k + 6) (vSt (v :: vs) 0 n false [] r0 rest told) = playN key valP (k + 1) (vSt vs 6 (n + 5) false [txtV key, txtV v] (txtV v) rest told) := by
  have h0 : stepF key valP (vSt (v :: vs) 0 n false [] r0 rest told) = pushP (vSt vs 1 (n + 1) false [] r0 rest told) [txtV v, intV 1] := by kernel_rfl
  rw [push_two _ _ _ hv (by show 0 < 15; omega)] at h0
  have h1 : stepF key valP (vSt vs 1 (n + 1) false [txtV v, intV 1] r0 rest told) = (0, vSt vs 3 (n + 1 + 1) false [txtV v] r0 rest told) := by kernel_rfl
  have h3 : stepF key valP (vSt vs 3 (n + 1 + 1) false [txtV v] r0 rest told) = (0, vSt vs 4 (n + 1 + 1 + 1) false [] (txtV v) rest told) := by kernel_rfl
  have h4 : stepF key valP (vSt vs 4 (n + 1 + 1 + 1) false [] (txtV v) rest told) = pushP (vSt vs 5 (n + 1 + 1 + 1 + 1) false [] (txtV v) rest told) [txtV key] := by kernel_rfl
  rw [push_txt _ _ (by omega) (by show 0 < 16; omega)] at h4
  have h5 : stepF key valP (vSt vs 5 (n + 1 + 1 + 1 + 1) false [txtV key] (txtV v) rest told) = pushP (vSt vs 6 (n + 1 + 1 + 1 + 1 + 1) false [txtV key] (txtV v) rest told) [txtV v] := by kernel_rfl
  rw [push_txt _ _ hv (by show 1 < 16; omega)] at h5
  have e : n + 1 + 1 + 1 + 1 + 1 = n + 5 := by omega
  rw [e] at h5
  refine (playN_go (k + 5) (val_on _ 0 (by omega) _ _ _ _ _) h0).trans ?_
  refine (playN_go (k + 4) (val_on _ 1 (by omega) _ _ _ _ _) h1).trans ?_
  refine (playN_go (k + 3) (val_on _ 3 (by omega) _ _ _ _ _) h3).trans ?_
  refine (playN_go (k + 2) (val_on _ 4 (by omega) _ _ _ _ _) h4).trans ?_
  exact playN_go (k + 1) (val_on _ 5 (by omega) _ _ _ _ _) h5
theorem val_emit (key v : ByteArray) (vs : List ByteArray) (n : Int) (r0 : ValD) (rest : List ValD) (told : List PairD) :
    stepF key valP (vSt vs 6 n false [txtV key, txtV v] r0 rest told) = (emitW (vSt vs 7 (n + 1) false [] r0 rest told) key, emitS (vSt vs 7 (n + 1) false [] r0 rest told) key v) := by kernel_rfl
theorem val_round (key : ByteArray) (hk : key.size ≤ 16) (v : ByteArray) (hv : v.size ≤ 64) (vs : List ByteArray) (n : Int) (r0 : ValD) (rest : List ValD) (told : List PairD) (ht : told.length < 40) (k : Nat) :
    playN key valP (k + 7) (vSt (v :: vs) 0 n false [] r0 rest told) = playN key valP k (vSt vs 0 (n + 7) false [] (txtV v) rest (told ++ [⟨key, v⟩])) := by
  have h6 := val_emit key v vs (n + 5) (txtV v) rest told
  rw [emit_ok _ _ _ hk ht] at h6
  have h7 : stepF key valP (vSt vs 7 (n + 5 + 1) false [] (txtV v) rest (told ++ [⟨key, v⟩])) = (0, vSt vs 0 (n + 5 + 1 + 1) false [] (txtV v) rest (told ++ [⟨key, v⟩])) := by kernel_rfl
  have e : n + 5 + 1 + 1 = n + 7 := by omega
  rw [e] at h7
  refine (val_six key hk v hv vs n r0 rest told (k + 1)).trans ?_
  refine (playN_go (k + 1) (val_on _ 6 (by omega) _ _ _ _ _) h6).trans ?_
  exact playN_go k (val_on _ 7 (by omega) _ _ _ _ _) h7
theorem val_over (key : ByteArray) (hk : key.size ≤ 16) (v : ByteArray) (hv : v.size ≤ 64) (vs : List ByteArray) (n : Int) (r0 : ValD) (rest : List ValD) (told : List PairD) (ht : 40 ≤ told.length) (k : Nat) :
    (playN key valP (k + 6) (vSt (v :: vs) 0 n false [] r0 rest told)).1 = 5 := by
  have h6 := val_emit key v vs (n + 5) (txtV v) rest told
  have hw : emitW (vSt vs 7 (n + 5 + 1) false [] (txtV v) rest told) key = 5 := by
    unfold emitW
    rw [if_neg (by omega)]
    exact if_pos ht
  rw [hw] at h6
  have hg : goesOn valP (vSt vs 6 (n + 5) false [txtV key, txtV v] (txtV v) rest told) := val_on _ 6 (by omega) _ _ _ _ _
  rw [val_six key hk v hv vs n r0 rest told k, playN_succ, if_pos hg, h6, if_neg (by show ¬ (5 : Int) = 0; omega)]
theorem val_end (key : ByteArray) (n : Int) (r0 : ValD) (rest : List ValD) (told : List PairD) (k : Nat) :
    playN key valP (k + 3) (vSt [] 0 n false [] r0 rest told) = (0, vSt [] 3 (n + 3) true [] r0 rest told) := by
  have h0 : stepF key valP (vSt [] 0 n false [] r0 rest told) = (0, vSt [] 1 (n + 1) false [intV 0] r0 rest told) := by kernel_rfl
  have h1 : stepF key valP (vSt [] 1 (n + 1) false [intV 0] r0 rest told) = (0, vSt [] 2 (n + 1 + 1) false [] r0 rest told) := by kernel_rfl
  have h2 : stepF key valP (vSt [] 2 (n + 1 + 1) false [] r0 rest told) = (0, vSt [] 3 (n + 1 + 1 + 1) true [] r0 rest told) := by kernel_rfl
  have e : n + 1 + 1 + 1 = n + 3 := by omega
  rw [e] at h2
  refine (playN_go (k + 2) (val_on _ 0 (by omega) _ _ _ _ _) h0).trans ?_
  refine (playN_go (k + 1) (val_on _ 1 (by omega) _ _ _ _ _) h1).trans ?_
  refine (playN_go k (val_on _ 2 (by omega) _ _ _ _ _) h2).trans ?_
  exact playN_halt k (fun h => by cases h.2)
theorem val_all (key : ByteArray) (hk : key.size ≤ 16) (rest : List ValD) (k : Nat) : ∀ (vals : List ByteArray) (n : Int) (r0 : ValD) (told : List PairD), (∀ v ∈ vals, v.size ≤ 64) → told.length + vals.length ≤ 40 →
    ∃ r1, playN key valP (k + 3 + 7 * vals.length) (vSt vals 0 n false [] r0 rest told) = (0, vSt [] 3 (n + 7 * vals.length + 3) true [] r1 rest (told ++ vals.map (fun v => ⟨key, v⟩))) := by
  intro vals
  induction vals with
  | nil =>
    intro n r0 told _ _
    refine ⟨r0, (val_end key n r0 rest told k).trans ?_⟩
    simp
  | cons v vs ih =>
    intro n r0 told hv hl
    simp only [List.length_cons] at hl
    obtain ⟨r1, h⟩ := ih (n + 7) (txtV v) (told ++ [⟨key, v⟩]) (fun x hx => hv x (List.mem_cons_of_mem _ hx)) (by simp; omega)
    refine ⟨r1, (val_round key hk v (hv v List.mem_cons_self) vs n r0 rest told (by omega) (k + 3 + 7 * vs.length)).trans ?_⟩
    rw [h]
    have e : n + 7 + 7 * (vs.length : Int) + 3 = n + 7 * ((v :: vs).length : Int) + 3 := by simp only [List.length_cons]; omega
    rw [e]
    simp
theorem val_many (key : ByteArray) (hk : key.size ≤ 16) (rest : List ValD) : ∀ (vals : List ByteArray) (k : Nat) (n : Int) (r0 : ValD) (told : List PairD), (∀ v ∈ vals, v.size ≤ 64) → told.length ≤ 40 → 40 < told.length + vals.length → 7 * vals.length ≤ k →
    (playN key valP k (vSt vals 0 n false [] r0 rest told)).1 = 5 := by
  intro vals
  induction vals with
  | nil =>
    intro k n r0 told _ h1 h2
    simp at h2
    omega
  | cons v vs ih =>
    intro k n r0 told hv h1 h2 h3
    simp only [List.length_cons] at h2 h3
    by_cases ht : told.length < 40
    · obtain ⟨k, rfl⟩ : ∃ j, k = j + 7 := ⟨k - 7, by omega⟩
      rw [val_round key hk v (hv v List.mem_cons_self) vs n r0 rest told ht k]
      exact ih k (n + 7) (txtV v) (told ++ [⟨key, v⟩]) (fun x hx => hv x (List.mem_cons_of_mem _ hx)) (by simp; omega) (by simp; omega) (by omega)
    · obtain ⟨k, rfl⟩ : ∃ j, k = j + 6 := ⟨k - 6, by omega⟩
      exact val_over key hk v (hv v List.mem_cons_self) vs n r0 rest told (by omega) k
theorem val_may : CodeMay valP := by decide
theorem val_runs (key : ByteArray) (hk : key.size ≤ 16) (vals : List ByteArray) (hv : ∀ v ∈ vals, v.size ≤ 64) (hl : vals.length ≤ 40) : toldF key valP vals 2000 = vals.map (fun v => ⟨key, v⟩) ∧ whyF key valP vals 2000 = 0 ∧ stepsF key valP vals 2000 = 7 * vals.length + 3 := by
  obtain ⟨r1, h⟩ := val_all key hk (List.replicate 7 (intV 0)) (1997 - 7 * vals.length) vals 0 (intV 0) [] hv (by simp; omega)
  have e : finF key valP vals 2000 = playN key valP (1997 - 7 * vals.length + 3 + 7 * vals.length) (vSt vals 0 0 false [] (intV 0) (List.replicate 7 (intV 0)) []) := by
    rw [show 1997 - 7 * vals.length + 3 + 7 * vals.length = 2000 from by omega]
    rfl
  have hm : CodeMay valP ∧ (0 : Int) ≤ 2000 := ⟨val_may, by omega⟩
  unfold toldF whyF stepsF
  simp only [if_pos hm]
  rw [e, h]
  refine ⟨?_, rfl, ?_⟩
  · rw [if_pos rfl]; rfl
  · show (0 : Int) + 7 * vals.length + 3 = _
    omega
theorem val_runs_many (key : ByteArray) (hk : key.size ≤ 16) (vals : List ByteArray) (hv : ∀ v ∈ vals, v.size ≤ 64) (hl : 40 < vals.length) (hl2 : vals.length ≤ 60) : toldF key valP vals 2000 = [] ∧ whyF key valP vals 2000 = 5 := by
  have h := val_many key hk (List.replicate 7 (intV 0)) vals 2000 0 (intV 0) [] hv (by simp) (by simp; omega) (by omega)
  have e : finF key valP vals 2000 = playN key valP 2000 (vSt vals 0 0 false [] (intV 0) (List.replicate 7 (intV 0)) []) := rfl
  have hm : CodeMay valP ∧ (0 : Int) ≤ 2000 := ⟨val_may, by omega⟩
  unfold toldF whyF
  simp only [if_pos hm]
  rw [e, if_neg (by omega)]
  exact ⟨rfl, h⟩
/- adding up -/
def sumP : List InsD := [insN 7 0, insN 20 6, insN 6 0, insN 21 3, insN 17 0, insN 19 11, insN 18 0, insN 21 3, insN 8 0, insN 22 3, insN 19 0, insN 23 0]
def sSt (vals : List ByteArray) (at_ n : Int) (st : List ValD) (acc : Int) (told : List PairD) : St := ⟨vals, at_, n, false, st, [intV 0, intV 0, intV 0, intV acc, intV 0, intV 0, intV 0, intV 0], told⟩
theorem sum_on (vals : List ByteArray) (j : Nat) (hj : j < 12) (n : Int) (st : List ValD) (acc : Int) (told : List PairD) : goesOn sumP (sSt vals (j : Int) n st acc told) := ⟨by show (j : Int) < ((12 : Nat) : Int); omega, rfl⟩
theorem sum_round (key : ByteArray) (v : ByteArray) (hv : v.size ≤ 64) (vs : List ByteArray) (n acc : Int) (k : Nat) :
    playN key sumP (k + 7) (sSt (v :: vs) 0 n [] acc []) = playN key sumP k (sSt vs 0 (n + 7) [] (wrap64 (numB v + acc)) []) := by
  have h0 : stepF key sumP (sSt (v :: vs) 0 n [] acc []) = pushP (sSt vs 1 (n + 1) [] acc []) [txtV v, intV 1] := by kernel_rfl
  rw [push_two _ _ _ hv (by show 0 < 15; omega)] at h0
  have h1 : stepF key sumP (sSt vs 1 (n + 1) [txtV v, intV 1] acc []) = (0, sSt vs 6 (n + 1 + 1) [txtV v] acc []) := by kernel_rfl
  have h2 : stepF key sumP (sSt vs 6 (n + 1 + 1) [txtV v] acc []) = (0, sSt vs 7 (n + 1 + 1 + 1) [intV (numB v)] acc []) := by kernel_rfl
  have h3 : stepF key sumP (sSt vs 7 (n + 1 + 1 + 1) [intV (numB v)] acc []) = (0, sSt vs 8 (n + 1 + 1 + 1 + 1) [intV (numB v), intV acc] acc []) := by kernel_rfl
  have h4 : stepF key sumP (sSt vs 8 (n + 1 + 1 + 1 + 1) [intV (numB v), intV acc] acc []) = (0, sSt vs 9 (n + 1 + 1 + 1 + 1 + 1) [intV (wrap64 (numB v + acc))] acc []) := by kernel_rfl
  have h5 : stepF key sumP (sSt vs 9 (n + 1 + 1 + 1 + 1 + 1) [intV (wrap64 (numB v + acc))] acc []) = (0, sSt vs 10 (n + 1 + 1 + 1 + 1 + 1 + 1) [] (wrap64 (numB v + acc)) []) := by kernel_rfl
  have h6 : stepF key sumP (sSt vs 10 (n + 1 + 1 + 1 + 1 + 1 + 1) [] (wrap64 (numB v + acc)) []) = (0, sSt vs 0 (n + 1 + 1 + 1 + 1 + 1 + 1 + 1) [] (wrap64 (numB v + acc)) []) := by kernel_rfl
  have e : n + 1 + 1 + 1 + 1 + 1 + 1 + 1 = n + 7 := by omega
  rw [e] at h6
  refine (playN_go (k + 6) (sum_on _ 0 (by omega) _ _ _ _) h0).trans ?_
  refine (playN_go (k + 5) (sum_on _ 1 (by omega) _ _ _ _) h1).trans ?_
  refine (playN_go (k + 4) (sum_on _ 6 (by omega) _ _ _ _) h2).trans ?_
  refine (playN_go (k + 3) (sum_on _ 7 (by omega) _ _ _ _) h3).trans ?_
  refine (playN_go (k + 2) (sum_on _ 8 (by omega) _ _ _ _) h4).trans ?_
  refine (playN_go (k + 1) (sum_on _ 9 (by omega) _ _ _ _) h5).trans ?_
  exact playN_go k (sum_on _ 10 (by omega) _ _ _ _) h6
theorem sum_end (key : ByteArray) (hk : key.size ≤ 16) (n acc : Int) (ha : In64 acc) (k : Nat) :
    playN key sumP (k + 7) (sSt [] 0 n [] acc []) = (0, sSt [] 12 (n + 7) [] acc [⟨key, digB acc⟩]) := by
  have h0 : stepF key sumP (sSt [] 0 n [] acc []) = (0, sSt [] 1 (n + 1) [intV 0] acc []) := by kernel_rfl
  have h1 : stepF key sumP (sSt [] 1 (n + 1) [intV 0] acc []) = (0, sSt [] 2 (n + 1 + 1) [] acc []) := by kernel_rfl
  have h2 : stepF key sumP (sSt [] 2 (n + 1 + 1) [] acc []) = pushP (sSt [] 3 (n + 1 + 1 + 1) [] acc []) [txtV key] := by kernel_rfl
  rw [push_txt _ _ (by omega) (by show 0 < 16; omega)] at h2
  have h3 : stepF key sumP (sSt [] 3 (n + 1 + 1 + 1) [txtV key] acc []) = (0, sSt [] 4 (n + 1 + 1 + 1 + 1) [txtV key, intV acc] acc []) := by kernel_rfl
  have h4 : stepF key sumP (sSt [] 4 (n + 1 + 1 + 1 + 1) [txtV key, intV acc] acc []) = pushP (sSt [] 5 (n + 1 + 1 + 1 + 1 + 1) [txtV key] acc []) [txtV (digB acc)] := by kernel_rfl
  rw [push_txt _ _ (digB_size _ ha) (by show 1 < 16; omega)] at h4
  have h5 : stepF key sumP (sSt [] 5 (n + 1 + 1 + 1 + 1 + 1) [txtV key, txtV (digB acc)] acc []) = (0, sSt [] 11 (n + 1 + 1 + 1 + 1 + 1 + 1) [txtV key, txtV (digB acc)] acc []) := by kernel_rfl
  have h6 : stepF key sumP (sSt [] 11 (n + 1 + 1 + 1 + 1 + 1 + 1) [txtV key, txtV (digB acc)] acc []) = (emitW (sSt [] 12 (n + 1 + 1 + 1 + 1 + 1 + 1 + 1) [] acc []) key, emitS (sSt [] 12 (n + 1 + 1 + 1 + 1 + 1 + 1 + 1) [] acc []) key (digB acc)) := by kernel_rfl
  rw [emit_ok _ _ _ hk (by show 0 < 40; omega)] at h6
  have e : n + 1 + 1 + 1 + 1 + 1 + 1 + 1 = n + 7 := by omega
  rw [e] at h6
  refine (playN_go (k + 6) (sum_on _ 0 (by omega) _ _ _ _) h0).trans ?_
  refine (playN_go (k + 5) (sum_on _ 1 (by omega) _ _ _ _) h1).trans ?_
  refine (playN_go (k + 4) (sum_on _ 2 (by omega) _ _ _ _) h2).trans ?_
  refine (playN_go (k + 3) (sum_on _ 3 (by omega) _ _ _ _) h3).trans ?_
  refine (playN_go (k + 2) (sum_on _ 4 (by omega) _ _ _ _) h4).trans ?_
  refine (playN_go (k + 1) (sum_on _ 5 (by omega) _ _ _ _) h5).trans ?_
  refine (playN_go k (sum_on _ 11 (by omega) _ _ _ _) h6).trans ?_
  exact playN_halt k (fun h => by have : (12 : Int) < ((12 : Nat) : Int) := h.1; omega)
/-- Texts' numbers, added up behind a number. -/
def sumF : Int → List ByteArray → Int
  | acc, [] => acc
  | acc, v :: vs => sumF (wrap64 (acc + numB v)) vs
theorem sumF_append (xs ys : List ByteArray) : ∀ acc, sumF acc (xs ++ ys) = sumF (sumF acc xs) ys := by
  induction xs with
  | nil => intro acc; rfl
  | cons v vs ih => intro acc; exact ih _
theorem wrap64_in (n : Int) : In64 (wrap64 n) := by unfold In64 wrap64; omega
theorem sumF_in (xs : List ByteArray) : ∀ acc, In64 acc → In64 (sumF acc xs) := by
  induction xs with
  | nil => intro acc h; exact h
  | cons v vs ih => intro acc _; exact ih _ (wrap64_in _)
theorem sum_all (key : ByteArray) (hk : key.size ≤ 16) (k : Nat) : ∀ (vals : List ByteArray) (n acc : Int), In64 acc → (∀ v ∈ vals, v.size ≤ 64) →
    playN key sumP (k + 7 + 7 * vals.length) (sSt vals 0 n [] acc []) = (0, sSt [] 12 (n + 7 * vals.length + 7) [] (sumF acc vals) [⟨key, digB (sumF acc vals)⟩]) := by
  intro vals
  induction vals with
  | nil =>
    intro n acc ha _
    refine (sum_end key hk n acc ha k).trans ?_
    simp [sumF]
  | cons v vs ih =>
    intro n acc ha hv
    have h := ih (n + 7) (wrap64 (acc + numB v)) (wrap64_in _) (fun x hx => hv x (List.mem_cons_of_mem _ hx))
    refine (sum_round key v (hv v List.mem_cons_self) vs n acc (k + 7 + 7 * vs.length)).trans ?_
    rw [Int.add_comm (numB v) acc, h]
    have e : n + 7 + 7 * (vs.length : Int) + 7 = n + 7 * ((v :: vs).length : Int) + 7 := by simp only [List.length_cons]; omega
    rw [e]
    rfl
theorem sum_may : CodeMay sumP := by decide
theorem sum_runs (key : ByteArray) (hk : key.size ≤ 16) (vals : List ByteArray) (hv : ∀ v ∈ vals, v.size ≤ 64) (hl : vals.length ≤ 60) : toldF key sumP vals 2000 = [⟨key, digB (sumF 0 vals)⟩] ∧ whyF key sumP vals 2000 = 0 ∧ stepsF key sumP vals 2000 = 7 * vals.length + 7 := by
  have h := sum_all key hk (1993 - 7 * vals.length) vals 0 0 (in64_small (by omega) (by omega)) hv
  have e : finF key sumP vals 2000 = playN key sumP (1993 - 7 * vals.length + 7 + 7 * vals.length) (sSt vals 0 0 [] 0 []) := by
    rw [show 1993 - 7 * vals.length + 7 + 7 * vals.length = 2000 from by omega]
    rfl
  have hm : CodeMay sumP ∧ (0 : Int) ≤ 2000 := ⟨sum_may, by omega⟩
  unfold toldF whyF stepsF
  simp only [if_pos hm]
  rw [e, h]
  refine ⟨?_, rfl, ?_⟩
  · rw [if_pos rfl]; rfl
  · show (0 : Int) + 7 * vals.length + 7 = _
    omega
end Go.Proofs.YthdinhgadefgaaaDoor.K
