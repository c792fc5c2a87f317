/- What bytes are read as, in plain lists; the reader's steps. WRITTEN BY wip/gen_reader.py. -/
import Derived.Test.YtkgbcoijkmlmnaaR6
import Derived.Test.YtkgbcoijkmlmnaaCh
set_option linter.unusedVariables false
set_option linter.unusedSimpArgs false
set_option maxRecDepth 100000
namespace Go.Proofs.Ytkgbcoijkmlmnaa.K
open Go.RowKit Go.Proofs.YtkgbcoijkmlmnaaW.PrintWords Go.Proofs.YtkgbcoijkmlmnaaW.PrintLast Go.Proofs.YtkgbcoijkmlmnaaW.PrintMore Go.Proofs.Ytkgbcoijkmlmnaa.U Go.Proofs.Ytkgbcoijkmlmnaa.T

/-! ### in plain lists -/
def pN (l : List Int) : Option (Int × List Int) := if 8 ≤ l.length then some (dec8 (l.take 8), l.drop 8) else none
def pT (l : List Int) : Option (ByteArray × List Int) :=
  if 8 ≤ l.length then
    if 0 ≤ dec8 (l.take 8) ∧ dec8 (l.take 8) + 8 ≤ l.length then some (strOfNums ((l.drop 8).take (dec8 (l.take 8)).toNat), l.drop (8 + (dec8 (l.take 8)).toNat)) else none
  else none
def nx (F : Int → List Int → Option RecD) (l : List Int) : Option RecD := match pN l with | none => none | some (n, r) => F n r
def nt (F : ByteArray → List Int → Option RecD) (l : List Int) : Option RecD := match pT l with | none => none | some (n, r) => F n r
def nc (m : Int) (F : Nat → List Int → Option RecD) : List Int → Option RecD := nx (fun n l => if 0 ≤ n ∧ n ≤ m then F n.toNat l else none)
def cEnd (f : RecD) (l : List Int) : Option RecD := if l = [] ∧ MayR f then some f else none
def cPairs (f : List PairD → RecD) : Nat → List PairD → List Int → Option RecD
  | 0, acc => cEnd (f acc)
  | m + 1, acc => nt (fun a => nt (fun b => cPairs f m (acc ++ [⟨a, b⟩])))
def cMany (k p s a r : Int) (st : List Int) : List Int → Option RecD := nc 40 (fun n => cPairs (fun ps => ⟨k, p, s, a, r, st, ps⟩) n [])
def cSet (k p s a r : Int) : Nat → List Int → List Int → Option RecD
  | 0, acc => cMany k p s a r acc
  | m + 1, acc => nx (fun x => cSet k p s a r m (acc ++ [x]))
def c5 (k p s a r : Int) : List Int → Option RecD := nc 6 (fun n => cSet k p s a r n [])
/-- The record that a body of bytes is. -/
def parseRec : List Int → Option RecD := nx (fun k => nx (fun p => nx (fun s => nx (fun a => nx (fun r => c5 k p s a r)))))

/-- Where a reader stands, and what is to be read yet. -/
structure Inv (b : List Int) (at_ : Int) (bad : Bool) (G : List Int → Option RecD) : Prop where
  lo : 0 ≤ at_
  hi : at_ ≤ b.length
  no : bad = true → parseRec b = none
  go : bad = false → parseRec b = G (b.drop at_.toNat)
theorem Inv.num {b : List Int} {at_ : Int} {bad : Bool} {F : Int → List Int → Option RecD} (h : Inv b at_ bad (nx F)) (q : Int × Int × Bool) (hq : q = rdNum b at_) : Inv b (if q.2.2 then q.2.1 else at_) (bad || !q.2.2) (F q.1) := by
  unfold rdNum at hq
  by_cases h1 : 0 ≤ at_ ∧ at_ + 8 ≤ b.length
  · rw [if_pos h1] at hq
    subst hq
    refine ⟨by simp; have := h.lo; omega, by simp; omega, fun hb => h.no (by simpa using hb), fun hb => ?_⟩
    have hb' : bad = false := by simpa using hb
    have h2 := h.go hb'
    rw [h2]
    have e : (at_ + 8).toNat = at_.toNat + 8 := by omega
    simp only [if_true]
    rw [nx, pN, if_pos (by rw [List.length_drop]; omega), e]
    simp [List.drop_drop]
  · rw [if_neg h1] at hq
    subst hq
    refine ⟨by simpa using h.lo, by simpa using h.hi, fun _ => ?_, fun hb => by simp at hb⟩
    cases bad with
    | true => exact h.no rfl
    | false =>
      rw [h.go rfl, nx, pN, if_neg (by rw [List.length_drop]; have := h.lo; have := h.hi; omega)]
theorem Inv.text {b : List Int} {at_ : Int} {bad : Bool} {F : ByteArray → List Int → Option RecD} (h : Inv b at_ bad (nt F)) (q : ByteArray × Int × Bool) (hq : q = rdText b at_) : Inv b (if q.2.2 then q.2.1 else at_) (bad || !q.2.2) (F q.1) := by
  have hno : ¬ (∃ s r, pT (b.drop at_.toNat) = some (s, r)) → bad = false → parseRec b = none := fun hn hb => by
    rw [h.go hb, nt]
    cases hp : pT (b.drop at_.toNat) with
    | none => rfl
    | some v => exact absurd ⟨v.1, v.2, hp⟩ hn
  have bad_ : pT (b.drop at_.toNat) = none → q = (⟨#[]⟩, 0, false) → Inv b (if q.2.2 then q.2.1 else at_) (bad || !q.2.2) (F q.1) := fun hp hq => by
    subst hq
    refine ⟨by simpa using h.lo, by simpa using h.hi, fun _ => ?_, fun hb => by simp at hb⟩
    cases bad with
    | true => exact h.no rfl
    | false => exact hno (fun ⟨s, r, h2⟩ => by rw [hp] at h2; cases h2) rfl
  have hlo := h.lo
  have hhi := h.hi
  unfold rdText at hq
  by_cases h1 : 0 ≤ at_ ∧ at_ + 8 ≤ b.length
  · rw [if_pos h1] at hq
    by_cases h2 : 0 ≤ dec8 ((b.drop at_.toNat).take 8) ∧ at_ + 8 + dec8 ((b.drop at_.toNat).take 8) ≤ b.length
    · rw [if_pos h2] at hq
      subst hq
      refine ⟨by simp; omega, by simp; omega, fun hb => h.no (by simpa using hb), fun hb => ?_⟩
      have hb' : bad = false := by simpa using hb
      rw [h.go hb', nt, pT, if_pos (by rw [List.length_drop]; omega), if_pos ⟨h2.1, by rw [List.length_drop]; omega⟩]
      have e : (at_ + 8 + dec8 ((b.drop at_.toNat).take 8)).toNat = at_.toNat + (8 + (dec8 ((b.drop at_.toNat).take 8)).toNat) := by omega
      simp only [if_true]
      rw [e]
      simp [List.drop_drop]
    · rw [if_neg h2] at hq
      exact bad_ (by rw [pT, if_pos (by rw [List.length_drop]; omega), if_neg (fun h3 => h2 ⟨h3.1, by have := h3.2; rw [List.length_drop] at this; omega⟩)]) hq
  · rw [if_neg h1] at hq
    exact bad_ (by rw [pT, if_neg (by rw [List.length_drop]; omega)]) hq
theorem Inv.none {b : List Int} {at_ : Int} {bad : Bool} {G G' : List Int → Option RecD} (h : Inv b at_ bad G) (hn : ∀ l, G l = none) : Inv b at_ true G' :=
  ⟨h.lo, h.hi, fun _ => by cases bad with | true => exact h.no rfl | false => rw [h.go rfl, hn], fun hb => by cases hb⟩
theorem Inv.same {b : List Int} {at_ : Int} {bad : Bool} {G G' : List Int → Option RecD} (h : Inv b at_ bad G) (hn : ∀ l, G l = G' l) : Inv b at_ bad G' := ⟨h.lo, h.hi, h.no, fun hb => by rw [h.go hb, hn]⟩

/-! ### the reader -/
structure Rd (w : World) (g B : Nat) (A : Option Addr) (c : Nat) (b : List Int) (at_ : Int) (bad : Bool) : Prop where
  blk : w.heap[g]? = some (.cells ([.slice A b.length c, .int .i64 at_, .bool bad] : List Value).toArray 84 (0, 0))
  row : ∀ w', Ch w w' (fun k => k = g ∨ B ≤ k) → Kd.C (Kd.int .u8) w' A b.length b
  len : b.length ≤ c
  gB : g < B
theorem Rd.below {w w' : World} {g B : Nat} {A : Option Addr} {c : Nat} {b : List Int} {at_ : Int} {bad : Bool} (h : Rd w g B A c b at_ bad) (hb : Below w.heap.size w w') : Rd w' g B A c b at_ bad :=
  ⟨(hb.block _ (blk_lt' h.blk)).trans h.blk, fun w'' hc => h.row w'' ((Ch.of_below hb _).trans hc (fun _ _ e => e)), h.len, h.gB⟩
theorem Rd.set {w w' : World} {g B : Nat} {A : Option Addr} {c : Nat} {b : List Int} {at_ at' : Int} {bad bad' : Bool} (h : Rd w g B A c b at_ bad) (hc : Ch w w' (fun k => k = g)) (hb : w'.heap[g]? = some (.cells ([.slice A b.length c, .int .i64 at', .bool bad'] : List Value).toArray 84 (0, 0))) : Rd w' g B A c b at' bad' :=
  ⟨hb, fun w'' hd => h.row w'' ((hc.mono (fun _ e => .inl e)).trans hd (fun _ _ e => e)), h.len, h.gB⟩
theorem Rd.up {w w' : World} {g B : Nat} {A : Option Addr} {c : Nat} {b : List Int} {at_ : Int} {bad : Bool} (h : Rd w g B A c b at_ bad) (hc : Ch w w' (fun k => B ≤ k)) : Rd w' g B A c b at_ bad :=
  ⟨hc.blk h.blk (by have := h.gB; omega), fun w'' hd => h.row w'' ((hc.mono (fun _ e => .inr e)).trans hd (fun _ _ e => e)), h.len, h.gB⟩
/-- The reader stands somewhere; G is what is to be read yet. -/
def Stood (w : World) (g B : Nat) (A : Option Addr) (c : Nat) (b : List Int) (G : List Int → Option RecD) : Prop := ∃ (at_ : Int) (bad : Bool), Rd w g B A c b at_ bad ∧ Inv b at_ bad G
theorem Stood.up {w w' : World} {g B : Nat} {A : Option Addr} {c : Nat} {b : List Int} {G : List Int → Option RecD} (h : Stood w g B A c b G) (hc : Ch w w' (fun k => B ≤ k)) : Stood w' g B A c b G := by
  obtain ⟨a, d, h1, h2⟩ := h
  exact ⟨a, d, h1.up hc, h2⟩
theorem Stood.below {w w' : World} {g B : Nat} {A : Option Addr} {c : Nat} {b : List Int} {G : List Int → Option RecD} (h : Stood w g B A c b G) (hb : Below w.heap.size w w') : Stood w' g B A c b G := by
  obtain ⟨a, d, h1, h2⟩ := h
  exact ⟨a, d, h1.below hb, h2⟩
set_option maxHeartbeats 1600000 in
theorem rNum (g B : Nat) (A : Option Addr) (c : Nat) (b : List Int) (F : Int → List Int → Option RecD) (w : World) (hS : Stood w g B A c b (nx F)) :
    Calls Try.prog 79 #[.pointer (some ⟨g, 0, none⟩)] w fun e w' => ∃ n, e = .returned (.int .i64 n) ∧ Stood w' g B A c b (F n) ∧ Ch w w' (fun k => k = g) := by
  obtain ⟨at_, bad, h, hI⟩ := hS
  obtain ⟨q, hq⟩ : ∃ q, q = rdNum b at_ := ⟨_, rfl⟩
  have hI2 := hI.num q hq
  have HI2 := Aside0.mk hI2
  have HQ := Aside0.mk hq
  have HRD := Aside0.mk h
  have hmx := Kd.C_max (h.row w (Ch.refl _ _))
  have hlo := hI.lo
  have hhi := hI.hi
  have HT : Aside0 (∀ w', HeldB w w' → Calls Try.prog 78 #[.slice A b.length c, .int .i64 at_] w' fun e w'' => e = .returned (.tuple #[.int .i64 q.1, .int .i64 q.2.1, .bool q.2.2]) ∧ HeldB w w'') := ⟨fun w' hw => (readNum_any A c b at_ w' ((HRD.out.below hw).row w' (Ch.refl _ _)) HRD.out.len (by omega) q HQ.out).mono (fun e w'' k => ⟨k.1, hw.then_ k.2⟩)⟩
  have HK0 : Aside0 (∀ w', HeldB w w' → w'.cell? ⟨g, 0, none⟩ = some (.slice A b.length c) ∧ w'.cell? ⟨g, 1, none⟩ = some (.int .i64 at_)) := ⟨fun w' hw => ⟨cell_of_blk (HRD.out.below hw).blk, cell_of_blk (HRD.out.below hw).blk⟩⟩
  have hh0 : HeldB w w := Below.refl _ _
  have hhd : ∀ w', HeldB w w' → HeldB w w'.drew := fun w' h => h.then_ ⟨rfl, rfl, rfl, Nat.le_refl _, fun _ _ => rfl⟩
  clear h hI hI2 hq
  obtain ⟨q0, q1, ok⟩ := q
  simp only at HT HI2
  go_enter Try.func79, Try.ntmps79
  go_wp2_with fail
  go_region_held_law (fun w' => w'.cell? ⟨g, 0, none⟩ = some (.slice A b.length c) ∧ w'.cell? ⟨g, 1, none⟩ = some (.int .i64 at_)) (first | assumption | exact HK0.out _ (by first | assumption | exact hhd _ hh0))
   (first
    | (go_at_call 78; ((with_reducible refine (HT.out _ (by first | assumption | exact hhd _ hh0)).mono ?_); rintro e w5 ⟨rfl, hH5⟩)))
  all_goals
    have h5 := HRD.out.below hH5
    have HRD5 := Aside0.mk h5
    have HH5 := Aside0.mk hH5
    have y2 : w5.cell? ⟨g, 2, none⟩ = some (.bool bad) := cell_of_blk h5.blk
    have y1 : w5.cell? ⟨g, 1, none⟩ = some (.int .i64 at_) := cell_of_blk h5.blk
    have z2 : w5.frozen? ⟨g, 2, none⟩ = false := frozen_of_blk h5.blk
    have s2 := setCell_blk (j := 2) h5.blk (.bool (bad || !ok))
    have z1 : (w5.setCell ⟨g, 2, none⟩ (.bool (bad || !ok))).frozen? ⟨g, 1, none⟩ = false := frozen_of_blk s2
    have y3 : (w5.setCell ⟨g, 2, none⟩ (.bool (bad || !ok))).cell? ⟨g, 1, none⟩ = some (.int .i64 at_) := cell_of_blk s2
    clear hH5 hh0 hhd h5 s2
    cases ok
    · cases bad
      · have HI3 : Aside0 (Inv b at_ true (F q0)) := ⟨by simpa using HI2.out⟩
        have hc3 : Ch w5 (w5.setCell ⟨g, 2, none⟩ (.bool true)) (fun k => k = g) := (Ch.refl w5 (fun k => k = g)).setCell ⟨g, 2, none⟩ (.bool true) rfl
        have HR3 : Aside0 (Rd (w5.setCell ⟨g, 2, none⟩ (.bool true)) g B A c b at_ true) := ⟨HRD5.out.set hc3 (setCell_blk (j := 2) HRD5.out.blk (.bool true))⟩
        have HC3 : Aside0 (Ch w (w5.setCell ⟨g, 2, none⟩ (.bool true)) (fun k => k = g)) := ⟨(Ch.of_below HH5.out (fun k => k = g)).trans hc3 (fun _ _ e => e)⟩
        clear hc3
        simp only [Bool.not_true, Bool.not_false, Bool.or_false, Bool.or_true, Bool.true_or, Bool.false_or] at z1 y3
        go_wp2_with fail
        go_ret
        exact ⟨q0, rfl, ⟨_, _, HR3.out, HI3.out⟩, HC3.out⟩
      · have HI3 : Aside0 (Inv b at_ true (F q0)) := ⟨by simpa using HI2.out⟩
        have hc3 : Ch w5 (w5.setCell ⟨g, 2, none⟩ (.bool true)) (fun k => k = g) := (Ch.refl w5 (fun k => k = g)).setCell ⟨g, 2, none⟩ (.bool true) rfl
        have HR3 : Aside0 (Rd (w5.setCell ⟨g, 2, none⟩ (.bool true)) g B A c b at_ true) := ⟨HRD5.out.set hc3 (setCell_blk (j := 2) HRD5.out.blk (.bool true))⟩
        have HC3 : Aside0 (Ch w (w5.setCell ⟨g, 2, none⟩ (.bool true)) (fun k => k = g)) := ⟨(Ch.of_below HH5.out (fun k => k = g)).trans hc3 (fun _ _ e => e)⟩
        clear hc3
        simp only [Bool.not_true, Bool.not_false, Bool.or_false, Bool.or_true, Bool.true_or, Bool.false_or] at z1 y3
        go_wp2_with fail
        go_ret
        exact ⟨q0, rfl, ⟨_, _, HR3.out, HI3.out⟩, HC3.out⟩
    · cases bad
      · have HI3 : Aside0 (Inv b q1 false (F q0)) := ⟨by simpa using HI2.out⟩
        have hc3 : Ch w5 ((w5.setCell ⟨g, 2, none⟩ (.bool false)).setCell ⟨g, 1, none⟩ (.int .i64 q1)) (fun k => k = g) := ((Ch.refl w5 (fun k => k = g)).setCell ⟨g, 2, none⟩ (.bool false) rfl).setCell ⟨g, 1, none⟩ (.int .i64 q1) rfl
        have HR3 : Aside0 (Rd ((w5.setCell ⟨g, 2, none⟩ (.bool false)).setCell ⟨g, 1, none⟩ (.int .i64 q1)) g B A c b q1 false) := ⟨HRD5.out.set hc3 (setCell_blk (j := 1) (setCell_blk (j := 2) HRD5.out.blk (.bool false)) (.int .i64 q1))⟩
        have HC3 : Aside0 (Ch w ((w5.setCell ⟨g, 2, none⟩ (.bool false)).setCell ⟨g, 1, none⟩ (.int .i64 q1)) (fun k => k = g)) := ⟨(Ch.of_below HH5.out (fun k => k = g)).trans hc3 (fun _ _ e => e)⟩
        clear hc3
        simp only [Bool.not_true, Bool.not_false, Bool.or_false, Bool.or_true, Bool.true_or, Bool.false_or] at z1 y3
        go_wp2_with fail
        go_ret
        exact ⟨q0, rfl, ⟨_, _, HR3.out, HI3.out⟩, HC3.out⟩
      · have HI3 : Aside0 (Inv b q1 true (F q0)) := ⟨by simpa using HI2.out⟩
        have hc3 : Ch w5 ((w5.setCell ⟨g, 2, none⟩ (.bool true)).setCell ⟨g, 1, none⟩ (.int .i64 q1)) (fun k => k = g) := ((Ch.refl w5 (fun k => k = g)).setCell ⟨g, 2, none⟩ (.bool true) rfl).setCell ⟨g, 1, none⟩ (.int .i64 q1) rfl
        have HR3 : Aside0 (Rd ((w5.setCell ⟨g, 2, none⟩ (.bool true)).setCell ⟨g, 1, none⟩ (.int .i64 q1)) g B A c b q1 true) := ⟨HRD5.out.set hc3 (setCell_blk (j := 1) (setCell_blk (j := 2) HRD5.out.blk (.bool true)) (.int .i64 q1))⟩
        have HC3 : Aside0 (Ch w ((w5.setCell ⟨g, 2, none⟩ (.bool true)).setCell ⟨g, 1, none⟩ (.int .i64 q1)) (fun k => k = g)) := ⟨(Ch.of_below HH5.out (fun k => k = g)).trans hc3 (fun _ _ e => e)⟩
        clear hc3
        simp only [Bool.not_true, Bool.not_false, Bool.or_false, Bool.or_true, Bool.true_or, Bool.false_or] at z1 y3
        go_wp2_with fail
        go_ret
        exact ⟨q0, rfl, ⟨_, _, HR3.out, HI3.out⟩, HC3.out⟩
set_option maxHeartbeats 1600000 in
theorem rText (g B : Nat) (A : Option Addr) (c : Nat) (b : List Int) (F : ByteArray → List Int → Option RecD) (w : World) (hS : Stood w g B A c b (nt F)) :
    Calls Try.prog 81 #[.pointer (some ⟨g, 0, none⟩)] w fun e w' => ∃ n, e = .returned (.string n) ∧ Stood w' g B A c b (F n) ∧ n.size ≤ b.length ∧ Ch w w' (fun k => k = g) := by
  obtain ⟨at_, bad, h, hI⟩ := hS
  obtain ⟨q, hq⟩ : ∃ q, q = rdText b at_ := ⟨_, rfl⟩
  have hI2 := hI.text q hq
  have HI2 := Aside0.mk hI2
  have HQ := Aside0.mk hq
  have HRD := Aside0.mk h
  have hmx := Kd.C_max (h.row w (Ch.refl _ _))
  have hlo := hI.lo
  have hhi := hI.hi
  have HT : Aside0 (∀ w', HeldB w w' → Calls Try.prog 49 #[.slice A b.length c, .int .i64 at_] w' fun e w'' => e = .returned (.tuple #[.string q.1, .int .i64 q.2.1, .bool q.2.2]) ∧ HeldB w w'') := ⟨fun w' hw => (readText_any A c b at_ w' ((HRD.out.below hw).row w' (Ch.refl _ _)) HRD.out.len (by omega) q HQ.out).mono (fun e w'' k => ⟨k.1, hw.then_ k.2⟩)⟩
  have HK0 : Aside0 (∀ w', HeldB w w' → w'.cell? ⟨g, 0, none⟩ = some (.slice A b.length c) ∧ w'.cell? ⟨g, 1, none⟩ = some (.int .i64 at_)) := ⟨fun w' hw => ⟨cell_of_blk (HRD.out.below hw).blk, cell_of_blk (HRD.out.below hw).blk⟩⟩
  have hh0 : HeldB w w := Below.refl _ _
  have hhd : ∀ w', HeldB w w' → HeldB w w'.drew := fun w' h => h.then_ ⟨rfl, rfl, rfl, Nat.le_refl _, fun _ _ => rfl⟩
  have HSZ : Aside0 (q.1.size ≤ b.length) := ⟨by
    rw [HQ.out]
    unfold rdText
    split
    · split
      · rw [size_str, List.length_take, List.length_drop]; omega
      · exact Nat.zero_le _
    · exact Nat.zero_le _⟩
  clear h hI hI2 hq
  obtain ⟨q0, q1, ok⟩ := q
  simp only at HT HI2 HSZ
  go_enter Try.func81, Try.ntmps81
  go_wp2_with fail
  go_region_held_law (fun w' => w'.cell? ⟨g, 0, none⟩ = some (.slice A b.length c) ∧ w'.cell? ⟨g, 1, none⟩ = some (.int .i64 at_)) (first | assumption | exact HK0.out _ (by first | assumption | exact hhd _ hh0))
   (first
    | (go_at_call 49; ((with_reducible refine (HT.out _ (by first | assumption | exact hhd _ hh0)).mono ?_); rintro e w5 ⟨rfl, hH5⟩)))
  all_goals
    have h5 := HRD.out.below hH5
    have HRD5 := Aside0.mk h5
    have HH5 := Aside0.mk hH5
    have y2 : w5.cell? ⟨g, 2, none⟩ = some (.bool bad) := cell_of_blk h5.blk
    have y1 : w5.cell? ⟨g, 1, none⟩ = some (.int .i64 at_) := cell_of_blk h5.blk
    have z2 : w5.frozen? ⟨g, 2, none⟩ = false := frozen_of_blk h5.blk
    have s2 := setCell_blk (j := 2) h5.blk (.bool (bad || !ok))
    have z1 : (w5.setCell ⟨g, 2, none⟩ (.bool (bad || !ok))).frozen? ⟨g, 1, none⟩ = false := frozen_of_blk s2
    have y3 : (w5.setCell ⟨g, 2, none⟩ (.bool (bad || !ok))).cell? ⟨g, 1, none⟩ = some (.int .i64 at_) := cell_of_blk s2
    clear hH5 hh0 hhd h5 s2
    cases ok
    · cases bad
      · have HI3 : Aside0 (Inv b at_ true (F q0)) := ⟨by simpa using HI2.out⟩
        have hc3 : Ch w5 (w5.setCell ⟨g, 2, none⟩ (.bool true)) (fun k => k = g) := (Ch.refl w5 (fun k => k = g)).setCell ⟨g, 2, none⟩ (.bool true) rfl
        have HR3 : Aside0 (Rd (w5.setCell ⟨g, 2, none⟩ (.bool true)) g B A c b at_ true) := ⟨HRD5.out.set hc3 (setCell_blk (j := 2) HRD5.out.blk (.bool true))⟩
        have HC3 : Aside0 (Ch w (w5.setCell ⟨g, 2, none⟩ (.bool true)) (fun k => k = g)) := ⟨(Ch.of_below HH5.out (fun k => k = g)).trans hc3 (fun _ _ e => e)⟩
        clear hc3
        simp only [Bool.not_true, Bool.not_false, Bool.or_false, Bool.or_true, Bool.true_or, Bool.false_or] at z1 y3
        go_wp2_with fail
        go_ret
        exact ⟨q0, rfl, ⟨_, _, HR3.out, HI3.out⟩, HSZ.out, HC3.out⟩
      · have HI3 : Aside0 (Inv b at_ true (F q0)) := ⟨by simpa using HI2.out⟩
        have hc3 : Ch w5 (w5.setCell ⟨g, 2, none⟩ (.bool true)) (fun k => k = g) := (Ch.refl w5 (fun k => k = g)).setCell ⟨g, 2, none⟩ (.bool true) rfl
        have HR3 : Aside0 (Rd (w5.setCell ⟨g, 2, none⟩ (.bool true)) g B A c b at_ true) := ⟨HRD5.out.set hc3 (setCell_blk (j := 2) HRD5.out.blk (.bool true))⟩
        have HC3 : Aside0 (Ch w (w5.setCell ⟨g, 2, none⟩ (.bool true)) (fun k => k = g)) := ⟨(Ch.of_below HH5.out (fun k => k = g)).trans hc3 (fun _ _ e => e)⟩
        clear hc3
        simp only [Bool.not_true, Bool.not_false, Bool.or_false, Bool.or_true, Bool.true_or, Bool.false_or] at z1 y3
        go_wp2_with fail
        go_ret
        exact ⟨q0, rfl, ⟨_, _, HR3.out, HI3.out⟩, HSZ.out, HC3.out⟩
    · cases bad
      · have HI3 : Aside0 (Inv b q1 false (F q0)) := ⟨by simpa using HI2.out⟩
        have hc3 : Ch w5 ((w5.setCell ⟨g, 2, none⟩ (.bool false)).setCell ⟨g, 1, none⟩ (.int .i64 q1)) (fun k => k = g) := ((Ch.refl w5 (fun k => k = g)).setCell ⟨g, 2, none⟩ (.bool false) rfl).setCell ⟨g, 1, none⟩ (.int .i64 q1) rfl
        have HR3 : Aside0 (Rd ((w5.setCell ⟨g, 2, none⟩ (.bool false)).setCell ⟨g, 1, none⟩ (.int .i64 q1)) g B A c b q1 false) := ⟨HRD5.out.set hc3 (setCell_blk (j := 1) (setCell_blk (j := 2) HRD5.out.blk (.bool false)) (.int .i64 q1))⟩
        have HC3 : Aside0 (Ch w ((w5.setCell ⟨g, 2, none⟩ (.bool false)).setCell ⟨g, 1, none⟩ (.int .i64 q1)) (fun k => k = g)) := ⟨(Ch.of_below HH5.out (fun k => k = g)).trans hc3 (fun _ _ e => e)⟩
        clear hc3
        simp only [Bool.not_true, Bool.not_false, Bool.or_false, Bool.or_true, Bool.true_or, Bool.false_or] at z1 y3
        go_wp2_with fail
        go_ret
        exact ⟨q0, rfl, ⟨_, _, HR3.out, HI3.out⟩, HSZ.out, HC3.out⟩
      · have HI3 : Aside0 (Inv b q1 true (F q0)) := ⟨by simpa using HI2.out⟩
        have hc3 : Ch w5 ((w5.setCell ⟨g, 2, none⟩ (.bool true)).setCell ⟨g, 1, none⟩ (.int .i64 q1)) (fun k => k = g) := ((Ch.refl w5 (fun k => k = g)).setCell ⟨g, 2, none⟩ (.bool true) rfl).setCell ⟨g, 1, none⟩ (.int .i64 q1) rfl
        have HR3 : Aside0 (Rd ((w5.setCell ⟨g, 2, none⟩ (.bool true)).setCell ⟨g, 1, none⟩ (.int .i64 q1)) g B A c b q1 true) := ⟨HRD5.out.set hc3 (setCell_blk (j := 1) (setCell_blk (j := 2) HRD5.out.blk (.bool true)) (.int .i64 q1))⟩
        have HC3 : Aside0 (Ch w ((w5.setCell ⟨g, 2, none⟩ (.bool true)).setCell ⟨g, 1, none⟩ (.int .i64 q1)) (fun k => k = g)) := ⟨(Ch.of_below HH5.out (fun k => k = g)).trans hc3 (fun _ _ e => e)⟩
        clear hc3
        simp only [Bool.not_true, Bool.not_false, Bool.or_false, Bool.or_true, Bool.true_or, Bool.false_or] at z1 y3
        go_wp2_with fail
        go_ret
        exact ⟨q0, rfl, ⟨_, _, HR3.out, HI3.out⟩, HSZ.out, HC3.out⟩

set_option maxHeartbeats 1600000 in
theorem rCount (m : Nat) (hm : m ≤ 1000) (g B : Nat) (A : Option Addr) (c : Nat) (b : List Int) (F : Nat → List Int → Option RecD) (w : World) (hS : Stood w g B A c b (nc m F)) :
    Calls Try.prog 80 #[.pointer (some ⟨g, 0, none⟩), .int .i64 m] w fun e w' => ∃ n : Nat, e = .returned (.int .i64 n) ∧ n ≤ m ∧ Stood w' g B A c b (F n) ∧ Ch w w' (fun k => k = g) := by
  have HN := Aside0.mk (rNum g B A c b (fun n l => if 0 ≤ n ∧ n ≤ m then F n.toNat l else none) w hS)
  clear hS
  go_enter Try.func80, Try.ntmps80
  go_wp2_with fail
  refine HN.out.mono ?_
  rintro e w1 ⟨n, rfl, ⟨at', bad', hR, hI⟩, hC⟩
  by_cases hn : 0 ≤ n ∧ n ≤ (m : Int)
  · obtain ⟨k, rfl⟩ := Int.eq_ofNat_of_zero_le hn.1
    have HI := Aside0.mk (hI.same (G' := F k) (fun l => by rw [if_pos hn, Int.toNat_natCast]))
    have HRR := Aside0.mk (decide_eq_true hn).symm
    have HRC := Aside0.mk (And.intro hR hC)
    have hkm : k ≤ m := by omega
    clear hR hI hC hn
    go_wp2_with fail
    refine (within k 0 m _ true HRR.out).mono ?_
    rintro e w1 ⟨rfl, rfl⟩
    go_wp2_with fail
    go_ret
    exact ⟨k, rfl, hkm, ⟨_, _, HRC.out.1, HI.out⟩, HRC.out.2⟩
  · have HI := Aside0.mk (hI.none (G' := F 0) (fun l => by rw [if_neg hn]))
    have HRR := Aside0.mk (decide_eq_false hn).symm
    have HRC := Aside0.mk (And.intro hR hC)
    clear hI hC hn
    have z2 : w1.frozen? ⟨g, 2, none⟩ = false := frozen_of_blk hR.blk
    have y2 : w1.cell? ⟨g, 2, none⟩ = some (.bool bad') := cell_of_blk hR.blk
    clear hR
    go_wp2_with fail
    refine (within n 0 m _ false HRR.out).mono ?_
    rintro e w1 ⟨rfl, rfl⟩
    go_wp2_with fail
    go_ret
    exact ⟨0, rfl, Nat.zero_le _, ⟨_, _, HRC.out.1.set ((Ch.refl _ _).setCell _ _ rfl) (setCell_blk (j := 2) HRC.out.1.blk _), HI.out⟩, HRC.out.2.setCell _ _ rfl⟩
end Go.Proofs.Ytkgbcoijkmlmnaa.K
