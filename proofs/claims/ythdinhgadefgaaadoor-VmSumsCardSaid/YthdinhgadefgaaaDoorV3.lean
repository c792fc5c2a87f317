/- Values: what each call of the program does. -/
import Derived.Test.YthdinhgadefgaaaDoorU
import Derived.Test.YthdinhgadefgaaaDoorT
import Derived.Test.YthdinhgadefgaaaDoorCh
import Derived.Test.YthdinhgadefgaaaDoorV2
import Derived.Test.YthdinhgadefgaaaDoorSh
import Derived.WalkLawsBesides
import Derived.WalkSpells
set_option linter.unusedVariables false
set_option linter.unusedSimpArgs false
set_option maxRecDepth 100000
namespace Go.Proofs.YthdinhgadefgaaaDoor.K
open Go.RowKit Go.Proofs.YthdinhgadefgaaaDoorW.PrintWords Go.Proofs.YthdinhgadefgaaaDoorW.PrintLast Go.Proofs.YthdinhgadefgaaaDoorW.PrintMore Go.Proofs.YthdinhgadefgaaaDoor.U Go.Proofs.YthdinhgadefgaaaDoor.T Go.Proofs.YthdinhgadefgaaaDoor.V

/-- What the library's variables hold. -/
structure Env (w : World) : Prop where
  tab : Lib.TabIs Tryd.prog w "internal/strconv.uint64pow10" .u64 Lib.pow10Tab
  syn : ∃ tp p, w.var? Tryd.prog "strconv.ErrSyntax" = some #[.iface tp p]
  rng : ∃ tp p, w.var? Tryd.prog "strconv.ErrRange" = some #[.iface tp p]
theorem var_below {P : Program} {w w' : World} {n : String} {cs : Array Value} (h : w.var? P n = some cs) (hb : Below w.heap.size w w') : w'.var? P n = some cs := by
  unfold World.var? at h ⊢
  cases hg : P.globalNamed n with
  | none => simp [hg] at h
  | some g =>
    simp only [hg, Option.bind_some] at h ⊢
    have hlt : g < w.heap.size := by
      rcases Nat.lt_or_ge g w.heap.size with h' | h'
      · exact h'
      · simp [Array.getElem?_eq_none h'] at h
    rw [hb.block g hlt]
    exact h
theorem Env.below {w w' : World} (h : Env w) (hb : Below w.heap.size w w') : Env w' := by
  obtain ⟨h1, ⟨tp, p, h2⟩, ⟨tq, q, h3⟩⟩ := h
  exact ⟨var_below h1 hb, ⟨tp, p, var_below h2 hb⟩, ⟨tq, q, var_below h3 hb⟩⟩
/-- Blocks from B on change: the variables are below. -/
theorem Env.at_ {W w : World} (h : Env W) (hb : Below W.heap.size W w) : Env w := h.below hb
theorem below_grow (w : World) (k : Nat) (os : Array Obj) : Below w.heap.size w (Sort.grow (w.drewN k) os) :=
  (pw_below_drewN (Below.refl w.heap.size w) k).trans ⟨rfl, rfl, rfl, by simp [Sort.grow], fun k hk => by simp [Sort.grow, Array.getElem?_append_left hk]⟩
/-- A number's digits; the number whose digits these are. -/
def digB (n : Int) : ByteArray := ⟨(Lib.itoa n).toArray⟩
def numB (s : ByteArray) : Int := numL s.data.toList
theorem digB_list (n : Int) : (digB n).data.toList = Lib.itoa n := by simp [digB]
theorem ba_ext {a b : ByteArray} (h : a.data.toList = b.data.toList) : a = b := by
  obtain ⟨⟨a⟩⟩ := a
  obtain ⟨⟨b⟩⟩ := b
  simp only at h
  rw [h]
theorem numB_dig {n : Int} (h : In64 n) : numB (digB n) = n := by unfold numB; rw [digB_list, numL_itoa h]
theorem valDigits (n : Int) (w : World) (hE : Env w) (hn : In64 n) : Calls Tryd.prog 17 #[.int .i64 n] w fun e w' => e = .returned (.string (digB n)) ∧ Below w.heap.size w w' := by
  have HC := Aside0.mk (Tryd.strconv_FormatInt_10 n hn.1 hn.2 w hE.tab)
  clear hE
  go_enter Tryd.func17, Tryd.ntmps17
  go_wp2_with fail
  refine HC.out.mono ?_
  rintro e w1 ⟨rfl, k, os, rfl⟩
  go_wp2_with fail
  go_ret
  exact ⟨rfl, below_grow w k os⟩
/-- A byte; the bytes between two places. -/
def atB (s : ByteArray) (i : Int) : Int := if 0 ≤ i ∧ i < s.size then ((s.data.toList.getD i.toNat 0).toNat : Int) else -1
def loB (s : ByteArray) (f : Int) : Nat := (min (max f 0) (s.size : Int)).toNat
def cutB (s : ByteArray) (f t : Int) : ByteArray := if loB s t ≤ loB s f then ⟨#[]⟩ else s.extract (loB s f) (loB s t)
theorem loB_le (s : ByteArray) (f : Int) : loB s f ≤ s.size := by unfold loB; omega
theorem loB_int (s : ByteArray) (f : Int) : min (max f 0) (s.size : Int) = loB s f := by unfold loB; omega
theorem atB_in (s : ByteArray) (k : Nat) (h : k < s.size) : atB s (k : Int) = (s[k].toNat : Int) := by
  unfold atB
  rw [if_pos ⟨by omega, by omega⟩, Int.toNat_natCast]
  have h2 : k < s.data.toList.length := by simpa using h
  have h3 : k < s.data.size := h
  rw [List.getD_eq_getElem?_getD, List.getElem?_eq_getElem h2]
  simp
  rfl
theorem atB_out (s : ByteArray) (i : Int) (h : i < 0 ∨ (s.size : Int) ≤ i) : atB s i = -1 := by
  unfold atB
  rw [if_neg (by omega)]
theorem valAt (s : ByteArray) (i : Int) (w : World) (hs : s.size ≤ 9223372036854775807) : Calls Tryd.prog 21 #[.string s, .int .i64 i] w fun e w' => e = .returned (.int .i64 (atB s i)) ∧ w' = w := by
  by_cases h0 : i < 0
  · rw [atB_out s i (.inl h0)]
    go_enter Tryd.func21, Tryd.ntmps21
    go_wp2_with fail
    go_ret
    exact ⟨rfl, rfl⟩
  · by_cases h1 : (s.size : Int) ≤ i
    · rw [atB_out s i (.inr h1)]
      go_enter Tryd.func21, Tryd.ntmps21
      go_wp2_with fail
      go_ret
      exact ⟨rfl, rfl⟩
    · obtain ⟨k, rfl⟩ : ∃ k : Nat, i = k := ⟨i.toNat, by omega⟩
      have hk : k < s.size := by omega
      have hk1 : (k : Int) < s.size := by omega
      rw [atB_in s k hk]
      have hb : ((s[k]'hk).toNat : Int) < 256 := by have := (s[k]'hk).toNat_lt; omega
      clear h0 h1
      go_enter Tryd.func21, Tryd.ntmps21
      go_wp2_with fail
      go_ret
      exact ⟨rfl, rfl⟩
attribute [local go_sem] max2_int min2_int
theorem valCut (s : ByteArray) (f t : Int) (w : World) (hs : s.size ≤ 9223372036854775807) : Calls Tryd.prog 20 #[.string s, .int .i64 f, .int .i64 t] w fun e w' => e = .returned (.string (cutB s f t)) ∧ w' = w := by
  have hf := loB_int s f
  have ht := loB_int s t
  have hfl := loB_le s f
  have htl := loB_le s t
  unfold cutB
  generalize loB s f = a at *
  generalize loB s t = b at *
  by_cases h : b ≤ a
  · rw [if_pos h]
    go_enter Tryd.func20, Tryd.ntmps20
    go_wp2_with fail
    go_ret
    exact ⟨rfl, rfl⟩
  · rw [if_neg h]
    go_enter Tryd.func20, Tryd.ntmps20
    go_wp2_with fail
    go_ret
    exact ⟨rfl, rfl⟩
theorem valInt (n : Int) (w : World) : Calls Tryd.prog 26 #[.int .i64 n] w fun e w' => e = .returned (.agg #[.bool false, .int .i64 n, .string ⟨#[]⟩]) ∧ Below w.heap.size w w' := by
  go_enter Tryd.func26, Tryd.ntmps26
  go_wp2_with fail
  exact bodyPost_ret (v := .agg #[.bool false, .int .i64 n, .string ⟨#[]⟩]) (by simp [results, Tryd.results26, go_sem]) rfl ⟨rfl, (Below.refl _ _).alloc (Nat.le_refl _) _⟩
theorem valBytes (s : ByteArray) (w : World) : Calls Tryd.prog 27 #[.string s] w fun e w' => e = .returned (.agg #[.bool true, .int .i64 0, .string s]) ∧ Below w.heap.size w w' := by
  go_enter Tryd.func27, Tryd.ntmps27
  go_wp2_with fail
  exact bodyPost_ret (v := .agg #[.bool true, .int .i64 0, .string s]) (by simp [results, Tryd.results27, go_sem]) rfl ⟨rfl, (Below.refl _ _).alloc (Nat.le_refl _) _⟩
/-- A value. -/
structure ValD where
  text : Bool
  int : Int
  bytes : ByteArray
def ValD.cells (x : ValD) : Value := .agg #[.bool x.text, .int .i64 x.int, .string x.bytes]
def sameV (x y : ValD) : Prop := x.text = y.text ∧ if x.text then x.bytes = y.bytes else x.int = y.int
theorem bytes_toList_inj {x y : ByteArray} (h : x.toList = y.toList) : x = y := by
  rw [ByteArray.toList_eq, ByteArray.toList_eq] at h
  exact ByteArray.ext (Array.toList_inj.1 h)
theorem eqs (x y : ByteArray) : (x.toList == y.toList) = decide (x = y) := by
  rw [Bool.eq_iff_iff, beq_iff_eq, decide_eq_true_iff]
  exact ⟨bytes_toList_inj, fun h => by rw [h]⟩
theorem valSame (x y : ValD) (r : Bool) (hr : r = true ↔ sameV x y) (w : World) : Calls Tryd.prog 15 #[x.cells, y.cells] w fun e w' => e = .returned (.bool r) ∧ Below w.heap.size w w' := by
  obtain ⟨a, b, c⟩ := x
  obtain ⟨p, q, t⟩ := y
  unfold ValD.cells sameV at *
  simp only at *
  have hbe := (((Below.refl w.heap.size w).alloc (Nat.le_refl _) (.cells #[.bool a, .int .i64 b, .string c] 23)).alloc (by simp) (.cells #[.bool p, .int .i64 q, .string t] 23))
  cases a
  · cases p
    · have hq : (b == q) = r := by
        rw [Bool.eq_iff_iff, hr]
        simp
      clear hr
      go_enter Tryd.func15, Tryd.ntmps15
      go_wp2_with fail
      go_ret
      exact ⟨rfl, hbe⟩
    · have hq : r = false := by rw [Bool.eq_false_iff]; intro h; have := (hr.1 h).1; cases this
      subst hq
      clear hr
      go_enter Tryd.func15, Tryd.ntmps15
      go_wp2_with fail
      go_ret
      exact ⟨rfl, hbe⟩
  · cases p
    · have hq : r = false := by rw [Bool.eq_false_iff]; intro h; have := (hr.1 h).1; cases this
      subst hq
      clear hr
      go_enter Tryd.func15, Tryd.ntmps15
      go_wp2_with fail
      go_ret
      exact ⟨rfl, hbe⟩
    · have hq : (c.toList == t.toList) = r := by
        rw [eqs, Bool.eq_iff_iff, hr]
        simp
      clear hr
      go_enter Tryd.func15, Tryd.ntmps15
      go_wp2_with fail
      go_ret
      exact ⟨rfl, hbe⟩
theorem valNumber (s : ByteArray) (w : World) (hE : Env w) (hs : s.size ≤ 1000000) : Calls Tryd.prog 18 #[.string s] w fun e w' => e = .returned (.int .i64 (numB s)) ∧ Below w.heap.size w w' := by
  obtain ⟨x, hx⟩ : ∃ x, x = numB s := ⟨_, rfl⟩
  rw [← hx]
  cases hp : Lib.parseIntB 64 s.data.toList with
  | ok v =>
    have hv := parseIntB_in hp
    have hxx : x = if digB v = s then v else 0 := by
      rw [hx]
      unfold numB numL
      rw [hp]
      simp only
      by_cases h : digB v = s
      · rw [if_pos h, if_pos (by rw [← h, digB_list])]
      · rw [if_neg h, if_neg (fun e => h (ba_ext (by rw [digB_list]; exact e)))]
    have HP := Aside0.mk (Tryd.strconv_ParseInt_10_at64_ok s (by omega) v hp w)
    have HE := Aside0.mk hE
    have HV := Aside0.mk hv
    have hor : ((digB v).toList == s.toList) = true ∧ x = v ∨ ((digB v).toList == s.toList) = false ∧ x = 0 := by
      rw [eqs, hxx]
      by_cases h : digB v = s
      · rw [if_pos h]; exact .inl ⟨by simp [h], rfl⟩
      · rw [if_neg h]; exact .inr ⟨by simp [h], rfl⟩
    obtain ⟨d, hd⟩ : ∃ d, d = digB v := ⟨_, rfl⟩
    rw [← hd] at hor
    have HD := Aside0.mk hd
    clear hp hv hE hx hd hxx
    rcases hor with ⟨hq2, hxv⟩ | ⟨hq2, hxv⟩
    all_goals
      subst hxv
      go_enter Tryd.func18, Tryd.ntmps18
      go_wp2_with fail
      refine HP.out.mono ?_
      rintro e w1 ⟨rfl, hw1⟩
      have hb1 : Below w.heap.size w w1 := by
        rcases hw1 with rfl | ⟨t, rfl⟩
        · exact Below.refl _ _
        · exact bytes_below (Below.refl _ _) (Nat.le_refl _) _ _
      have HB1 := Aside0.mk hb1
      clear hw1 hb1
      go_wp2_with fail
      refine (valDigits _ w1 (HE.out.below HB1.out) HV.out).mono ?_
      rintro e w2 ⟨rfl, hb2⟩
      rw [← HD.out]
      have HB2 := Aside0.mk (below_then HB1.out HB1.out.size hb2)
      clear hb2
      go_wp2_with fail
      go_ret
      exact ⟨rfl, HB2.out⟩
  | range =>
    have hx0 : x = 0 := by rw [hx]; unfold numB numL; rw [hp]
    obtain ⟨tp, p, hv⟩ := hE.rng
    have HP := Aside0.mk (Tryd.strconv_ParseInt_10_at64_range_var s (by omega) hp tp p w hv)
    obtain ⟨y, hy⟩ : ∃ y, y = Lib.intSat 64 s.data.toList := ⟨_, rfl⟩
    rw [← hy] at HP
    clear hp hE hx hv hy
    subst hx0
    go_enter Tryd.func18, Tryd.ntmps18
    go_wp2_with fail
    refine HP.out.mono ?_
    rintro e w1 ⟨N, rfl, _, _, hb1⟩
    have HB1 := Aside0.mk hb1
    clear hb1
    go_wp2_with fail
    go_ret
    exact ⟨rfl, HB1.out⟩
  | _ =>
    have hx0 : x = 0 := by rw [hx]; unfold numB numL; rw [hp]
    obtain ⟨tp, p, hv⟩ := hE.syn
    have HP := Aside0.mk (Tryd.strconv_ParseInt_10_at64_other_var s (by omega) (by rw [hp]; intro v e; cases e) (by rw [hp]; intro e; cases e) tp p w hv)
    clear hp hE hx hv
    subst hx0
    go_enter Tryd.func18, Tryd.ntmps18
    go_wp2_with fail
    refine HP.out.mono ?_
    rintro e w1 ⟨N, rfl, _, _, hb1⟩
    have HB1 := Aside0.mk hb1
    clear hb1
    go_wp2_with fail
    go_ret
    exact ⟨rfl, HB1.out⟩
end Go.Proofs.YthdinhgadefgaaaDoor.K
