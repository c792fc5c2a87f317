/- What was laid is read again; nothing else is; in plain lists. -/
import Derived.Test.YtkgbcoijkmlmnaaR11
set_option linter.unusedVariables false
set_option linter.unusedSimpArgs false
set_option maxRecDepth 100000
namespace Go.Proofs.Ytkgbcoijkmlmnaa.K
open Go.RowKit Go.Proofs.YtkgbcoijkmlmnaaW.PrintWords Go.Proofs.YtkgbcoijkmlmnaaW.PrintLast Go.Proofs.YtkgbcoijkmlmnaaW.PrintMore Go.Proofs.Ytkgbcoijkmlmnaa.U Go.Proofs.Ytkgbcoijkmlmnaa.T

def In64 (n : Int) : Prop := -9223372036854775808 ≤ n ∧ n ≤ 9223372036854775807
theorem pN_enc (n : Int) (r : List Int) (h : In64 n) : pN (bytes8 n 8 ++ r) = some (n, r) := by
  unfold pN
  rw [if_pos (by rw [List.length_append, bytes8_length]; omega), List.take_left' (bytes8_length n 8), List.drop_left' (bytes8_length n 8), dec8_bytes8 n h.1 h.2]
theorem str_bytesOf (s : ByteArray) : strOfNums (bytesOf s) = s := by
  apply ByteArray.ext
  apply Array.toList_inj.1
  simp [strOfNums, bytesOf, Function.comp_def]
theorem pT_enc (s : ByteArray) (r : List Int) (h : s.size ≤ 9223372036854775807) : pT (enc1 s ++ r) = some (s, r) := by
  have hd : dec8 ((enc1 s ++ r).take 8) = s.size := by
    rw [enc1, List.append_assoc, List.take_left' (bytes8_length _ _), dec8_bytes8 _ (by omega) (by omega)]
  have h8 : 8 ≤ (enc1 s ++ r).length := by rw [List.length_append, enc1_length]; omega
  have h2 : 0 ≤ dec8 ((enc1 s ++ r).take 8) ∧ dec8 ((enc1 s ++ r).take 8) + 8 ≤ ((enc1 s ++ r).length : Int) := by rw [hd, List.length_append, enc1_length]; omega
  unfold pT
  rw [if_pos h8, if_pos h2, hd, Int.toNat_natCast]
  have e1 : (enc1 s ++ r).drop 8 = bytesOf s ++ r := by rw [enc1, List.append_assoc, List.drop_left' (bytes8_length _ _)]
  have e2 : (enc1 s ++ r).drop (8 + s.size) = r := by rw [← List.drop_drop, e1, List.drop_left' (bytesOf_length s)]
  rw [e1, e2, List.take_left' (bytesOf_length s), str_bytesOf]
theorem nx_enc (F : Int → List Int → Option RecD) (n : Int) (r : List Int) (h : In64 n) : nx F (bytes8 n 8 ++ r) = F n r := by rw [nx, pN_enc n r h]
theorem nt_enc (F : ByteArray → List Int → Option RecD) (s : ByteArray) (r : List Int) (h : s.size ≤ 9223372036854775807) : nt F (enc1 s ++ r) = F s r := by rw [nt, pT_enc s r h]
theorem nc_enc (m : Int) (F : Nat → List Int → Option RecD) (n : Nat) (r : List Int) (h : (n : Int) ≤ m) (h64 : m ≤ 9223372036854775807) : nc m F (bytes8 n 8 ++ r) = F n r := by
  rw [nc, nx_enc _ _ _ ⟨by omega, by omega⟩, if_pos ⟨by omega, h⟩, Int.toNat_natCast]
theorem cPairs_enc (f : List PairD → RecD) (r : List Int) : ∀ (ps acc : List PairD), (∀ y ∈ ps, y.key.size ≤ 64 ∧ y.val.size ≤ 64) → cPairs f ps.length acc (encP ps ++ r) = cEnd (f (acc ++ ps)) r
  | [], acc, _ => by rw [List.append_nil]; rfl
  | y :: ps, acc, h => by
    have h1 := h y (List.mem_cons_self ..)
    have e : encP (y :: ps) ++ r = enc1 y.key ++ (enc1 y.val ++ (encP ps ++ r)) := by simp [encP, List.append_assoc]
    rw [e, List.length_cons, cPairs, nt_enc _ _ _ (by omega), nt_enc _ _ _ (by omega), cPairs_enc f r ps _ (fun z hz => h z (List.mem_cons_of_mem _ hz)), List.append_assoc]
    rfl
theorem cSet_enc (k p s a q : Int) (r : List Int) : ∀ (st acc : List Int), (∀ y ∈ st, In64 y) → cSet k p s a q st.length acc (encN st ++ r) = cMany k p s a q (acc ++ st) r
  | [], acc, _ => by rw [List.append_nil]; rfl
  | y :: st, acc, h => by
    have e : encN (y :: st) ++ r = bytes8 y 8 ++ (encN st ++ r) := by simp [encN, List.append_assoc]
    rw [e, List.length_cons, cSet, nx_enc _ _ _ (h y (List.mem_cons_self ..)), cSet_enc k p s a q r st _ (fun z hz => h z (List.mem_cons_of_mem _ hz)), List.append_assoc]
    rfl
theorem mayR_range {x : RecD} (h : MayR x) : (0 ≤ x.k ∧ x.k ≤ 6) ∧ (0 ≤ x.p ∧ x.p ≤ 3) ∧ (0 ≤ x.s ∧ x.s ≤ 5) ∧ (0 ≤ x.a ∧ x.a ≤ 3) ∧ (0 ≤ x.r ∧ x.r ≤ 6) ∧ ∀ y ∈ x.set, 0 ≤ y ∧ y ≤ 40 := by
  have nil : (x.set.length : Int) = 0 → ∀ y ∈ x.set, 0 ≤ y ∧ y ≤ 40 := fun h0 y hy => by
    rw [List.eq_nil_of_length_eq_zero (l := x.set) (by omega)] at hy
    simp at hy
  unfold MayR MayP at h
  rcases h with ⟨h1, h2, h3, h4, h5, h6, h7⟩ | ⟨h1, h2, h3, h4, h5, h6, h7⟩ | ⟨h1, h2, h6, h7⟩ | ⟨h1, h2, h3, h4, h5, h6, h7, h8⟩ | ⟨h1, h2, h3, h4, h5, h6, h7⟩
  · exact ⟨by omega, by omega, by omega, by omega, by omega, h6.2⟩
  · exact ⟨by omega, by omega, by omega, by omega, by omega, nil h6⟩
  · exact ⟨by omega, by omega, by omega, by omega, by omega, nil h6⟩
  · exact ⟨by omega, by omega, by omega, by omega, by omega, nil h6⟩
  · refine ⟨by omega, by omega, by omega, by omega, by omega, fun y hy => ?_⟩
    obtain ⟨j, hj, rfl⟩ := List.getElem_of_mem hy
    have := (h6 j hj).1
    simp only [List.getD_eq_getElem?_getD, hj, List.getElem?_eq_getElem, Option.getD_some] at this
    omega
theorem nx_eq {F : Int → List Int → Option RecD} {n : Int} {r : List Int} {y : Option RecD} (h : In64 n) (hy : F n r = y) : nx F (bytes8 n 8 ++ r) = y := (nx_enc F n r h).trans hy
theorem parse_five (k p s a q : Int) (r : List Int) (hk : In64 k) (hp : In64 p) (hs : In64 s) (ha : In64 a) (hq : In64 q) : parseRec (bytes8 k 8 ++ (bytes8 p 8 ++ (bytes8 s 8 ++ (bytes8 a 8 ++ (bytes8 q 8 ++ r))))) = c5 k p s a q r :=
  nx_eq hk (nx_eq hp (nx_eq hs (nx_eq ha (nx_eq hq rfl))))
theorem c5_enc (k p s a q : Int) (n : Nat) (r : List Int) (h : (n : Int) ≤ 6) : c5 k p s a q (bytes8 n 8 ++ r) = cSet k p s a q n [] r := by
  unfold c5
  exact nc_enc 6 _ n r h (by decide)
theorem cMany_enc (k p s a q : Int) (st : List Int) (n : Nat) (r : List Int) (h : (n : Int) ≤ 40) : cMany k p s a q st (bytes8 n 8 ++ r) = cPairs (fun ps => ⟨k, p, s, a, q, st, ps⟩) n [] r := by
  unfold cMany
  exact nc_enc 40 _ n r h (by decide)
theorem body_flat (k p s a q : Int) (st : List Int) (ps : List PairD) : bodyR ⟨k, p, s, a, q, st, ps⟩ = bytes8 k 8 ++ (bytes8 p 8 ++ (bytes8 s 8 ++ (bytes8 a 8 ++ (bytes8 q 8 ++ (bytes8 (st.length : Nat) 8 ++ (encN st ++ (bytes8 (ps.length : Nat) 8 ++ (encP ps ++ [])))))))) := by
  unfold bodyR sixR
  simp only [encN, List.flatMap_cons, List.flatMap_nil, List.append_assoc, List.append_nil, List.nil_append]
theorem in64_of {n m : Int} (h : 0 ≤ n ∧ n ≤ m) (hm : m ≤ 40) : In64 n := ⟨by omega, by omega⟩
/-- What was laid is read. -/
theorem parse_body {x : RecD} (h : MayR x) : parseRec (bodyR x) = some x := by
  obtain ⟨hk, hp, hs, ha, hr, hset⟩ := mayR_range h
  obtain ⟨hl1, hl2, hsz⟩ := mayR_small h
  obtain ⟨k, p, s, a, q, st, ps⟩ := x
  replace hl1 : st.length ≤ 6 := hl1
  replace hl2 : ps.length ≤ 40 := hl2
  rw [body_flat, parse_five _ _ _ _ _ _ (in64_of hk (by decide)) (in64_of hp (by decide)) (in64_of hs (by decide)) (in64_of ha (by decide)) (in64_of hr (by decide)), c5_enc _ _ _ _ _ _ _ (by omega),
    cSet_enc _ _ _ _ _ _ st [] (fun y hy => in64_of (hset y hy) (by decide)), List.nil_append, cMany_enc _ _ _ _ _ _ _ _ (by omega), cPairs_enc _ _ ps [] hsz, List.nil_append]
  unfold cEnd
  exact if_pos ⟨rfl, h⟩
theorem recB_enc (x : RecD) : recB x = enc1 (strOfNums (bodyR x)) := by rw [recB, enc1, size_str, bytesOf_str _ (okB_body x)]
theorem recB_length (x : RecD) : (recB x).length = 8 + (bodyR x).length := by rw [recB, List.length_append, bytes8_length]
theorem one_of {l r : List Int} {s : ByteArray} (h : pT l = some (s, r)) : oneR l = (parseRec (bytesOf s)).map (fun x => (x, 8 + s.size)) := by
  unfold oneR
  rw [h]
theorem one_rec {x : RecD} (h : MayR x) (r : List Int) : oneR (recB x ++ r) = some (x, (recB x).length) := by
  have h1 := (recB_small h).1
  have h2 : pT (recB x ++ r) = some (strOfNums (bodyR x), r) := by
    rw [recB_enc]
    exact pT_enc _ _ (by rw [size_str]; omega)
  rw [one_of h2, bytesOf_str _ (okB_body x), parse_body h, Option.map_some, size_str, recB_length]
/-- Of too few bytes there is none. -/
theorem one_short (x : RecD) (h : MayR x) (m : Nat) (hm : m < (recB x).length) : oneR ((recB x).take m) = none := by
  have h1 := (recB_small h).1
  unfold oneR
  have hp : pT ((recB x).take m) = none := by
    unfold pT
    by_cases h8 : 8 ≤ ((recB x).take m).length
    · rw [if_pos h8, if_neg]
      rintro ⟨_, h2⟩
      rw [List.length_take, Nat.min_eq_left (by omega)] at h8
      rw [List.take_take, Nat.min_eq_left h8, recB, List.take_left' (bytes8_length _ _), dec8_bytes8 _ (by omega) (by omega), ← recB, List.length_take, Nat.min_eq_left (by omega)] at h2
      rw [recB, List.length_append, bytes8_length] at hm
      omega
    · rw [if_neg h8]
  rw [hp]
theorem one_nil : oneR [] = none := rfl
theorem one_few (l : List Int) (h : l.length < 8) : oneR l = none := by
  unfold oneR
  have hp : pT l = none := by
    unfold pT
    rw [if_neg (by omega)]
  rw [hp]
theorem allR_append (a b : List RecD) : allR (a ++ b) = allR a ++ allR b := by simp [allR]
theorem stR_all (xs : List RecD) (h : ∀ x ∈ xs, MayR x) (r : List Int) : ∀ k, k ≤ xs.length → stR (allR xs ++ r) k = some (xs.take k, (allR (xs.take k)).length)
  | 0, _ => rfl
  | k + 1, hk => by
    have e : (allR xs ++ r).drop (allR (xs.take k)).length = recB (xs[k]'hk) ++ (allR (xs.drop (k + 1)) ++ r) := by
      have e1 : xs = xs.take k ++ (xs[k]'hk :: xs.drop (k + 1)) := by rw [List.getElem_cons_drop, List.take_append_drop]
      have e2 : allR xs = allR (xs.take k) ++ (recB (xs[k]'hk) ++ allR (xs.drop (k + 1))) := (congrArg allR e1).trans (by rw [allR_append]; rfl)
      rw [e2, List.append_assoc, List.drop_left' rfl, List.append_assoc]
    rw [stR, stR_all xs h r k (by omega)]
    simp only []
    rw [e, one_rec (h _ (List.getElem_mem hk)), List.take_succ_eq_append_getElem hk, allR_append, List.length_append]
    simp [allR]
theorem read_all (xs : List RecD) (h : ∀ x ∈ xs, MayR x) (r : List Int) (hr : oneR r = none) : ReadF (allR xs ++ r) xs (allR xs).length := by
  refine ⟨xs.length, ?_, by rw [List.drop_left' rfl]; exact hr⟩
  have := stR_all xs h r xs.length (Nat.le_refl _)
  rwa [List.take_length] at this
theorem lay_inj {a b : List RecD} (ha : ∀ x ∈ a, MayR x) (hb : ∀ x ∈ b, MayR x) (h : allR a = allR b) : a = b := by
  have h1 := read_all a ha [] one_nil
  have h2 := read_all b hb [] one_nil
  rw [h] at h1
  exact (h1.unique h2).1
end Go.Proofs.Ytkgbcoijkmlmnaa.K
