/- The master's hellos: the plain law; 'has'. -/
import Derived.Test.YtbnhhlahbhjogaaY20
set_option linter.unusedVariables false
set_option linter.unusedSimpArgs false
set_option maxRecDepth 100000
namespace Go.Proofs.Ytbnhhlahbhjogaa.K
open Go.RowKit Go.Proofs.YtbnhhlahbhjogaaW.PrintWords Go.Proofs.YtbnhhlahbhjogaaW.PrintLast Go.Proofs.YtbnhhlahbhjogaaW.PrintMore Go.Proofs.Ytbnhhlahbhjogaa.U Go.Proofs.Ytbnhhlahbhjogaa.T

/-- The counts that split s tells: 10 + s of part p, 0 else. -/
def cnt (np p s : Nat) : List Int := (List.replicate np (0 : Int)).set p ((10 : Int) + (s : Int))
def hlS (np p s : Nat) (a : Int) : SpS := if a = 0 then zeroS else ⟨0, 0, 0, true, a, cnt np p s⟩
def hlSp (np p : Nat) (T : List Int) : List SpS := (List.range T.length).map (fun k => hlS np p k (T.getD k 0))
/-- Who won what: T's numbers that are not 0. -/
def hlM (np p : Nat) (T : List Int) (rd : List Bool) (round : Int) : MaS := ⟨0, hlSp np p T, rd, 0, 0, round⟩
theorem hl_len (np p : Nat) (T : List Int) : (hlSp np p T).length = T.length := by
  unfold hlSp
  rw [List.length_map, List.length_range]
theorem hl_at (np p : Nat) (T : List Int) (k : Nat) (h : k < (hlSp np p T).length) : (hlSp np p T)[k] = hlS np p k (T.getD k 0) := by simp [hlSp]
theorem hl_get (np p : Nat) (T : List Int) (rd : List Bool) (round : Int) (s : Nat) (hs : s < T.length) : (hlM np p T rd round).sp.getD s zeroS = hlS np p s (T.getD s 0) := by
  show (hlSp np p T).getD s zeroS = _
  unfold hlSp
  rw [List.getD_eq_getElem?_getD, List.getElem?_map, List.getElem?_range hs]
  rfl
theorem hl_m0 (c : CfgD) (np p : Nat) : m0 c = hlM np p (List.replicate c.job.splits.length 0) [false, false, false, false] 0 := by
  unfold m0 hlM
  congr 1
  apply List.ext_getElem
  · rw [hl_len, List.length_replicate, List.length_replicate]
  · intro k h1 h2
    rw [List.length_replicate] at h1
    rw [List.getElem_replicate, hl_at]
    rw [show (List.replicate c.job.splits.length (0 : Int)).getD k 0 = 0 from by rw [List.getD_eq_getElem?_getD, List.getElem?_replicate, if_pos h1]; rfl]
    rfl
theorem hl_open (np p : Nat) (T : List Int) (rd : List Bool) (round : Int) (s : Nat) (hs : s < T.length) (h0 : T.getD s 0 = 0) : openN (hlM np p T rd round) s = some s := by
  have hl : (hlM np p T rd round).sp.length = T.length := hl_len np p T
  unfold openN
  rw [Int.toNat_natCast, hl_get np p T rd round s hs, hl, h0, if_pos ⟨by omega, by omega, rfl⟩]
theorem hl_win (np p : Nat) (T : List Int) (rd : List Bool) (round : Int) (s : Nat) (a : Int) (hs : s < T.length) (h0 : T.getD s 0 = 0) (ha : a ≠ 0) : winK (hlM np p T rd round) s a (cnt np p s) = hlM np p (T.set s a) rd round := by
  unfold winK
  rw [hl_get np p T rd round s hs, h0]
  unfold hlM
  dsimp only
  congr 1
  apply List.ext_getElem
  · rw [List.length_set, hl_len, hl_len, List.length_set]
  · intro k h1 h2
    rw [List.length_set, hl_len] at h1
    rw [List.getElem_set, hl_at, hl_at]
    by_cases hk : s = k
    · subst hk
      rw [if_pos rfl]
      rw [show (T.set s a).getD s 0 = a from by rw [List.getD_eq_getElem?_getD, List.getElem?_set_self hs]; rfl]
      unfold hlS
      rw [if_neg ha, if_pos rfl]
      rfl
    · rw [if_neg hk]
      rw [show (T.set s a).getD k 0 = T.getD k 0 from by rw [List.getD_eq_getElem?_getD, List.getElem?_set_ne hk, ← List.getD_eq_getElem?_getD]]
theorem set_same (T : List Int) (s : Nat) (a : Int) (hs : s < T.length) (h : T.getD s 0 = a) : T.set s a = T := by
  rw [← h, List.getD_eq_getElem?_getD, List.getElem?_eq_getElem hs]
  exact List.set_getElem_self hs
def hdoneX (np p s : Nat) (a : Int) : MsgD := ⟨4, s, a, 0, 0, 0, 0, 0, cnt np p s, []⟩
def helloX (p : Nat) (set : List Int) : MsgD := ⟨6, 0, 0, p, 0, 0, 0, 0, set, []⟩
theorem cnt_len (np p s : Nat) : (cnt np p s).length = np := by
  unfold cnt
  rw [List.length_set, List.length_replicate]
theorem hl_done (c : CfgD) (np p : Nat) (T : List Int) (rd : List Bool) (round : Int) (s : Nat) (a : Int) (hs : s < T.length) (hs6 : s ≤ 6) (h0 : T.getD s 0 = 0) (ha0 : 0 ≤ a) (hat : a ≤ c.tries) (hp : c.job.parts = np) (hw : 1 ≤ c.workers) :
    ∃ rs, hearF c (hlM np p T rd round) 1 (hdoneX np p s a) = (hlM np p (T.set s a) rd round, [], rs) := by
  rw [hearF_ok c _ 1 _ (by omega) (by omega) rfl]
  unfold hearK
  rw [if_pos (show (hdoneX np p s a).k = 4 from rfl)]
  by_cases ha : a = 0
  · have hd : doneK c (hlM np p T rd round) (hdoneX np p s a) = none := doneK_none (.inr (.inl (by show a < 1; omega)))
    rw [hd, ha, set_same T s 0 hs h0]
    exact ⟨[], rfl⟩
  · have hnb : ¬ ∃ y ∈ (hdoneX np p s a).set, y < 0 ∨ 40 < y := by
      rintro ⟨y, hy, h⟩
      have hy : y ∈ (List.replicate np (0 : Int)).set p ((10 : Int) + (s : Int)) := hy
      rcases List.mem_or_eq_of_mem_set hy with h1 | h1
      · rw [List.eq_of_mem_replicate h1] at h
        omega
      · omega
    have hlen : ((hdoneX np p s a).set.length : Int) = c.job.parts := by rw [hp]; show ((cnt np p s).length : Int) = _; rw [cnt_len]
    have hd : doneK c (hlM np p T rd round) (hdoneX np p s a) = some s := doneK_some hnb (by show ¬ a < 1; omega) (by show ¬ c.tries < a; omega) hlen (hl_open np p T rd round s hs h0)
    rw [hd]
    refine ⟨[⟨1, 0, s, a, 0, cnt np p s, []⟩], ?_⟩
    show (winK (hlM np p T rd round) s a (cnt np p s), _, _) = _
    rw [hl_win np p T rd round s a hs h0 ha]
    rfl
/-- The splits that are told of, of the first k. -/
def lk (np p : Nat) (T set : List Int) (k : Nat) : List Int := (winUp (hlM np p T [false, false, false, false] 0) k).filter (fun n => decide (n ∉ set))
theorem up_any (np p : Nat) (T : List Int) (rd rd' : List Bool) (r r' : Int) (k : Nat) : winUp (hlM np p T rd r) k = winUp (hlM np p T rd' r') k := by
  induction k with
  | zero => rfl
  | succ k ih =>
    unfold winUp
    rw [ih]
    rfl
theorem lk_succ (np p : Nat) (T set : List Int) (k : Nat) (hk : k < T.length) : lk np p T set (k + 1) = if T.getD k 0 = 0 ∨ (k : Int) ∈ set then lk np p T set k else lk np p T set k ++ [(k : Int)] := by
  unfold lk
  show (if _ then _ else _ : List Int).filter _ = _
  rw [hl_get np p T _ _ k hk]
  unfold hlS
  by_cases h0 : T.getD k 0 = 0
  · rw [if_pos h0, if_neg (by decide), if_pos (.inl h0)]
  · rw [if_neg h0, if_pos rfl, List.filter_append]
    by_cases hm : (k : Int) ∈ set
    · rw [if_pos (.inr hm)]
      simp [hm]
    · rw [if_neg (by rintro (h | h); exact h0 h; exact hm h)]
      simp [hm]
theorem lk_mem (np p : Nat) (T set : List Int) (k : Nat) (hk : k ≤ T.length) (n : Int) (h : n ∈ lk np p T set k) : ∃ j : Nat, n = j ∧ j < T.length ∧ T.getD j 0 ≠ 0 := by
  obtain ⟨j, rfl, hj, hw⟩ := winUp_mem _ k n (List.mem_filter.1 h).1
  refine ⟨j, rfl, by omega, fun h0 => ?_⟩
  rw [hl_get np p T _ _ j (by omega), h0] at hw
  cases hw
theorem lk_len (np p : Nat) (T set : List Int) (k : Nat) : (lk np p T set k).length ≤ k := Nat.le_trans (List.length_filter_le ..) (winUp_len _ k)
/-- What is told of split n. -/
def wantL (T : List Int) (p : Nat) (n : Int) : FLet := ⟨1, 7, n, T.getD n.toNat 0, p, 10 + n, 0⟩
theorem hl_tell (np p : Nat) (hp : p < np) (T : List Int) (rd : List Bool) (round : Int) (j : Nat) (hj : j < T.length) (h0 : T.getD j 0 ≠ 0) : tellL (hlM np p T rd round) 1 p j = wantL T p j := by
  unfold tellL wantL
  rw [Int.toNat_natCast, hl_get np p T rd round j hj]
  unfold hlS
  rw [if_neg h0]
  show FLet.mk _ _ _ _ _ ((cnt np p j).getD p 0) _ = FLet.mk _ _ _ _ _ _ _
  congr 1
  show (cnt np p j).getD p 0 = (10 : Int) + (j : Int)
  unfold cnt
  rw [List.getD_eq_getElem?_getD, List.getElem?_set_self (by rw [List.length_replicate]; exact hp)]
  rfl
def hlNext (np p : Nat) (T set : List Int) (rd : List Bool) (round : Int) : Int := if lk np p T set T.length = [] then round else round + 1
def hlOut (c : CfgD) (np p : Nat) (T set : List Int) (round : Int) : List FLet := (lk np p T set T.length).map (wantL T p) ++ (if lk np p T set T.length = [] then [] else [runL c round (firstI (lk np p T set T.length)) (T.getD (firstI (lk np p T set T.length)).toNat 0)])
theorem hl_hello (c : CfgD) (np p : Nat) (T set : List Int) (rd : List Bool) (round : Int) (hp : p < np) (hpp : c.job.parts = np) (hw : 1 ≤ c.workers) :
    hearF c (hlM np p T rd round) 1 (helloX p set) = (hlM np p T rd (hlNext np p T set rd round), hlOut c np p T set round, []) := by
  rw [hearF_ok c _ 1 _ (by omega) (by omega) rfl]
  unfold hearK
  rw [if_neg (show ¬ (helloX p set).k = 4 from by show ¬ (6 : Int) = 4; decide), if_neg (show ¬ (helloX p set).k = 5 from by show ¬ (6 : Int) = 5; decide), if_pos (show (helloX p set).k = 6 from rfl)]
  rw [if_pos (show 0 ≤ (helloX p set).p ∧ (helloX p set).p < c.job.parts from ⟨by show (0 : Int) ≤ (p : Int); omega, by rw [hpp]; show (p : Int) < (np : Int); omega⟩)]
  have hsl : (hlM np p T rd round).sp.length = T.length := hl_len np p T
  have hlk : lackF (hlM np p T rd round) (helloX p set).set (winners (hlM np p T rd round)).length = lk np p T set T.length := by
    unfold lackF lk winners
    rw [List.take_length, hsl, up_any np p T rd [false, false, false, false] round 0]
    rfl
  have hmap : (lk np p T set T.length).map (tellL (hlM np p T rd round) 1 (helloX p set).p) = (lk np p T set T.length).map (wantL T p) := List.map_congr_left (fun n hn => by
    obtain ⟨j, rfl, hj, h0⟩ := lk_mem np p T set T.length (Nat.le_refl _) n hn
    exact hl_tell np p hp T rd round j hj h0)
  unfold helloF
  rw [hlk, hmap]
  unfold hlNext hlOut
  by_cases h : lk np p T set T.length = []
  · rw [if_pos h, if_pos h, if_pos h, h]
    rfl
  · rw [if_neg h, if_neg h, if_neg h]
    obtain ⟨a, l, he⟩ := List.exists_cons_of_ne_nil h
    obtain ⟨j, hj, hjl, h0⟩ := lk_mem np p T set T.length (Nat.le_refl _) a (by rw [he]; exact List.mem_cons_self ..)
    have hf : firstI (lk np p T set T.length) = (j : Int) := by rw [he, hj]; rfl
    rw [hf, Int.toNat_natCast, hl_get np p T rd round j hjl]
    unfold hlS
    rw [if_neg h0]
    rfl
set_option maxHeartbeats 1600000 in
theorem has_ (A0 : Option Addr) (c0 : Nat) (l0 : List Int) (x : Int) (w : World) (hr0 : Kd.C kI w A0 l0.length l0) (r : Bool) (hr : r = true ↔ x ∈ l0) :
    Calls Try.prog 19 #[.slice A0 l0.length c0, .int .i64 x] w fun e w' => e = .returned (.bool r) ∧ w' = w := by
  have HR := Aside0.mk hr
  have HR0 := Aside0.mk hr0
  obtain ⟨n, hn⟩ : ∃ n, n = l0.length := ⟨_, rfl⟩
  have hmx := Kd.C_max hr0
  have HN := Aside0.mk hn
  rw [← hn] at hmx ⊢
  clear hr hr0 hn
  go_enter Try.func19, Try.ntmps19
  go_wp2_with fail
  go_loopg [5] n (fun kq v5 w' => ∃ (k : Nat), k + kq = n ∧ v5 = .int .i64 k ∧ Aside0 (∀ j (h : j < l0.length), j < k → l0[j] ≠ x) ∧ w' = w)
  case atStart => exact ⟨0, by omega, rfl, ⟨fun _ _ h => absurd h (Nat.not_lt_zero _)⟩, rfl⟩
  case round =>
    obtain ⟨k, hk, rfl, HA, rfl⟩ := hrel
    by_cases hlt : k < n
    · have hltI : (k : Int) < n := by omega
      have hk0 : (0 : Int) ≤ (k : Int) := by omega
      have hkl : k < l0.length := by rw [← HN.out]; exact hlt
      obtain ⟨ad, rfl, hc⟩ := at_intz HR0.out k hkl
      obtain ⟨y, hy⟩ : ∃ y, y = l0[k] := ⟨_, rfl⟩
      rw [← hy] at hc
      by_cases he : y = x
      · have HE : Aside0 (r = true) := ⟨HR.out.2 (by rw [← he, hy]; exact List.getElem_mem hkl)⟩
        subst he
        clear hy hkl
        go_wp2_with fail
        go_ret
        exact ⟨by rw [HE.out]; rfl, rfl⟩
      · have heb : (y == x) = false := by simpa using he
        have HA2 : Aside0 (∀ j (h : j < l0.length), j < k + 1 → l0[j] ≠ x) := ⟨fun j h hj => by
          by_cases hjk : j = k
          · subst hjk
            rw [← hy]
            exact he
          · exact HA.out j h (by omega)⟩
        clear hy hkl he
        go_wp2_with fail
        go_roundg (n - (k + 1))
        case measure => omega
        case rel => exact ⟨k + 1, by omega, by go_num, HA2, rfl⟩
    · obtain rfl : k = n := by omega
      have HE : Aside0 (r = false) := ⟨by
        cases r with
        | false => rfl
        | true =>
          obtain ⟨j, hj, e⟩ := List.mem_iff_getElem.1 (HR.out.1 rfl)
          exact absurd e (HA.out j hj (by rw [HN.out]; exact hj))⟩
      go_wp2_with fail
      go_ret
      exact ⟨by rw [HE.out]; rfl, rfl⟩
end Go.Proofs.Ytbnhhlahbhjogaa.K
