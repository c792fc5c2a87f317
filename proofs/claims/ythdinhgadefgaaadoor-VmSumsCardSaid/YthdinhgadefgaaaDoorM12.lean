/- The machine: what every program answers that is one. -/
import Derived.Test.YthdinhgadefgaaaDoorM11
import Derived.Test.YthdinhgadefgaaaDoorQ2
import Derived.Test.YthdinhgadefgaaaDoorKL
set_option linter.unusedVariables false
set_option linter.unusedSimpArgs false
set_option maxRecDepth 100000
namespace Go.Proofs.YthdinhgadefgaaaDoor.K
open Go.RowKit Go.Proofs.YthdinhgadefgaaaDoorW.PrintWords Go.Proofs.YthdinhgadefgaaaDoorW.PrintLast Go.Proofs.YthdinhgadefgaaaDoorW.PrintMore Go.Proofs.YthdinhgadefgaaaDoor.U Go.Proofs.YthdinhgadefgaaaDoor.T Go.Proofs.YthdinhgadefgaaaDoor.V

/-- A row that is made as a literal. -/
theorem lit_row {α : Type} {d : Kd α} (f : α → List Value) (hK : ∀ (w : World) x, d.K w x (f x)) (hf : ∀ x, (f x).length = d.sz) (w : World) (xs : List α) (e : Nat) (arr : Array Value) (h : arr = ((xs.map f).flatten).toArray) (hl : xs.length ≤ 1000) : Kd.C d (w.alloc (.cells arr e)) (some ⟨w.heap.size, 0, none⟩) xs.length xs := by
  subst h
  have hcell : ∀ j u, ((xs.map f).flatten)[j]? = some u → (w.alloc (.cells ((xs.map f).flatten).toArray e)).cell? ((⟨w.heap.size, 0, none⟩ : Addr).add j) = some u := cells_new w _ e
  refine ⟨rfl, by omega, fun hk0 => ⟨_, rfl, fun j x hj => ⟨f x, hf x, hK _ x, fun i u hu => ?_⟩⟩⟩
  refine hcell _ _ ?_
  have hi : i < d.sz := by rw [← hf x]; exact (List.getElem?_eq_some_iff.1 hu).1
  clear hcell hl hk0
  show ((xs.map f).flatten)[j * d.sz + i]? = some u
  induction xs generalizing j with
  | nil => simp at hj
  | cons v vs ih =>
    rw [List.map_cons, List.flatten_cons]
    cases j with
    | zero =>
      simp at hj
      subst hj
      rw [Nat.zero_mul, Nat.zero_add, List.getElem?_append_left (by rw [hf]; exact hi)]
      exact hu
    | succ j =>
      rw [List.getElem?_append_right (by rw [hf, Nat.succ_mul]; omega), hf]
      have := ih j (by simpa using hj)
      rw [show (j + 1) * d.sz + i - d.sz = j * d.sz + i from by rw [Nat.succ_mul]; omega]
      exact this
def cellI (x : InsD) : List Value := [.int .i64 x.op, .int .i64 x.a, .string x.s]
theorem kIns_mk (w : World) (x : InsD) : kIns.K w x (cellI x) := ⟨_, _, rfl, rfl, ⟨_, _, rfl, rfl, rfl⟩⟩
theorem lit_ins (w : World) (xs : List InsD) (e : Nat) (arr : Array Value) (h : arr = ((xs.map cellI).flatten).toArray) (hl : xs.length ≤ 1000) : Kd.C kIns (w.alloc (.cells arr e)) (some ⟨w.heap.size, 0, none⟩) xs.length xs := lit_row cellI kIns_mk (fun _ => rfl) w xs e arr h hl
theorem lit_strs (w : World) (xs : List ByteArray) (e : Nat) (arr : Array Value) (h : arr = ((xs.map (fun s => [Value.string s])).flatten).toArray) (hl : xs.length ≤ 1000) : Kd.C Kd.string (w.alloc (.cells arr e)) (some ⟨w.heap.size, 0, none⟩) xs.length xs := lit_row (fun s => [Value.string s]) (fun _ _ => rfl) (fun _ => rfl) w xs e arr h hl
theorem lit_pairs (w : World) (xs : List PairD) (e : Nat) (arr : Array Value) (h : arr = ((xs.map (fun p => [Value.string p.key, Value.string p.val])).flatten).toArray) (hl : xs.length ≤ 1000) : Kd.C kPair (w.alloc (.cells arr e)) (some ⟨w.heap.size, 0, none⟩) xs.length xs := lit_row (fun p => [Value.string p.key, Value.string p.val]) (fun w p => kPair_mk w p) (fun _ => rfl) w xs e arr h hl
theorem nil_strs (w : World) : Kd.C Kd.string w none 0 [] := ⟨rfl, by omega, fun h => by omega⟩
def insN (op a : Int) : InsD := ⟨op, a, ⟨#[]⟩⟩
def firstP : List InsD := [insN 6 0, insN 7 0, insN 4 0, insN 23 0]
def jumpP : List InsD := [insN 19 0]
def kB : ByteArray := ⟨#[107]⟩
def aB : ByteArray := ⟨#[97]⟩
def bB : ByteArray := ⟨#[98]⟩
theorem first_told : toldF kB firstP [aB, bB] 9 = [⟨kB, aB⟩] := by kernel_rfl
theorem first_why : whyF kB firstP [aB, bB] 9 = 0 := by kernel_rfl
theorem jump_told : toldF kB jumpP [] 5 = [] := by kernel_rfl
theorem jump_why : whyF kB jumpP [] 5 = 3 := by kernel_rfl
theorem jump_steps : stepsF kB jumpP [] 5 = 5 := by kernel_rfl
theorem first_ (w : World) : Calls Tryd.prog 41 #[] w fun e w' => e = .returned (.slice (some ⟨w.heap.size, 0, none⟩) 4 4) ∧ Kd.C kIns w' (some ⟨w.heap.size, 0, none⟩) 4 firstP ∧ Below w.heap.size w w' := by
  go_enter Tryd.func41, Tryd.ntmps41
  go_wp2_with fail
  go_ret
  exact ⟨rfl, lit_ins w firstP _ _ rfl (by decide), (Below.refl _ _).alloc (Nat.le_refl _) _⟩
theorem in64_9 : In64 9 := in64_small (by omega) (by omega)
theorem first_in : ∀ x ∈ firstP, In64 x.a := fun x hx => by
  have : x.a = 0 := by
    simp [firstP, insN] at hx
    rcases hx with rfl | rfl | rfl | rfl <;> rfl
  rw [this]
  exact in64_small (by omega) (by omega)
theorem jump_in : ∀ x ∈ jumpP, In64 x.a := fun x hx => by
  have : x.a = 0 := by
    simp [jumpP, insN] at hx
    rw [hx]
  rw [this]
  exact in64_small (by omega) (by omega)
set_option maxHeartbeats 1600000 in
theorem awake6 (w : World) (hE : Env w) : Calls Tryd.prog 30 #[] w fun e w' => e = .returned (.bool true) ∧ Below w.heap.size w w' := by
  have HE := Aside0.mk hE
  clear hE
  go_enter Tryd.func30, Tryd.ntmps30
  go_wp2_with fail
  refine (first_ w).mono ?_
  rintro e w1 ⟨rfl, hC1, hb1⟩
  have HB1 := Aside0.mk hb1
  have HC1 := Aside0.mk hC1
  have HBS := Aside0.mk ((Below.refl w1.heap.size w1).alloc (Nat.le_refl _) (.cells #[.string aB, .string bB] 9))
  clear hb1 hC1
  go_wp2_with fail
  refine (vmRun (some ⟨w.heap.size, 0, none⟩) 4 firstP kB (some ⟨w1.heap.size, 0, none⟩) 2 [aB, bB] 9 _ ⟨HE.out.below (two_belowM HB1.out HBS.out), Kd.C_below HC1.out HBS.out, by decide, first_in, lit_strs w1 [aB, bB] _ _ rfl (by decide), by decide, by decide, by decide, in64_9⟩).mono ?_
  rintro e w2 ⟨A, c, rfl, hC2, hb2⟩
  rw [first_told, first_why]
  rw [first_told] at hC2
  have HC2 := Aside0.mk hC2
  have HB2 := Aside0.mk (two_belowM (two_belowM HB1.out HBS.out) hb2)
  clear hC2 hb2
  have HBJ := Aside0.mk ((Below.refl w2.heap.size w2).alloc (Nat.le_refl _) (.cells #[.int .i64 19, .int .i64 0, .string ⟨#[]⟩] 51))
  go_wp2_with fail
  refine (vmRun (some ⟨w2.heap.size, 0, none⟩) 1 jumpP kB none 0 [] 5 _ ⟨HE.out.below (two_belowM HB2.out HBJ.out), lit_ins w2 jumpP _ _ rfl (by decide), by decide, jump_in, nil_strs _, by decide, by decide, by decide, in64_small (by omega) (by omega)⟩).mono ?_
  rintro e w3 ⟨A3, c3, rfl, hC3, hb3⟩
  rw [jump_told, jump_why]
  have HC3 := Aside0.mk (Kd.C_below HC2.out (two_belowM HBJ.out hb3))
  have HB3 := Aside0.mk (two_belowM (two_belowM HB2.out HBJ.out) hb3)
  have HBP := Aside0.mk ((Below.refl w3.heap.size w3).alloc (Nat.le_refl _) (.cells #[.string kB, .string aB] 49))
  clear hC3 hb3
  go_wp2_with fail
  refine (samePairs A c [⟨kB, aB⟩] (some ⟨w3.heap.size, 0, none⟩) 1 [⟨kB, aB⟩] _ (Kd.C_below HC3.out HBP.out) (lit_pairs w3 [⟨kB, aB⟩] _ _ rfl (by decide)) true (by simp)).mono ?_
  rintro e w4 ⟨rfl, hb4⟩
  have HB4 := Aside0.mk (two_belowM (two_belowM HB3.out HBP.out) hb4)
  have HBK := Aside0.mk ((Below.refl w4.heap.size w4).alloc (Nat.le_refl _) (.cells #[.int .i64 19, .int .i64 0, .string ⟨#[]⟩] 51))
  clear hb4
  go_wp2_with fail
  refine (vmSteps (some ⟨w4.heap.size, 0, none⟩) 1 jumpP kB none 0 [] 5 _ ⟨HE.out.below (two_belowM HB4.out HBK.out), lit_ins w4 jumpP _ _ rfl (by decide), by decide, jump_in, nil_strs _, by decide, by decide, by decide, in64_small (by omega) (by omega)⟩).mono ?_
  rintro e w5 ⟨rfl, hb5⟩
  rw [jump_steps]
  have HB5 := Aside0.mk (two_belowM (two_belowM HB4.out HBK.out) hb5)
  clear hb5
  go_wp2_with fail
  go_ret
  exact ⟨rfl, HB5.out⟩
end Go.Proofs.YthdinhgadefgaaaDoor.K
